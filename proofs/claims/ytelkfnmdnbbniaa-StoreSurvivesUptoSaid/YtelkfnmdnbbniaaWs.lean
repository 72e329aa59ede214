/-
  The example of the chapter: the walk.
-/
import Derived.Test.YtelkfnmdnbbniaaWo
import Derived.Test.YtelkfnmdnbbniaaGk
namespace Go.Proofs.Ytelkfnmdnbbniaa
open Go Go.Proofs.Try
set_option maxRecDepth 10000
structure Sd (G F : PH) (M : List Nat) : Prop where
 le : G.le F
 z : ∀ b ∈ M, G b = none ∧ ∃ c : Array Value, c.size = 3 ∧ F b = some (.cells c 28 (0, 0))
section
variable {G F : PH} {M : List Nat}
theorem Sd.start (F : PH) : Sd F F [] := ⟨le_refl' F, fun b hb => by cases hb⟩
theorem Sd.call {f : FuncId} {args : Array Value} {R : Value → PH → Prop} (h : Sd G F M) (s : Spec prog f args G R) : Spec prog f args F fun v F' => ∃ G', R v G' ∧ Sd G' F' M ∧ ∀ b o, G b = none → F b = some o → F' b = some o :=
 (s.upon h.le).mono fun v F' ⟨G', hr, hl, hk⟩ => ⟨G', hr, ⟨hl, fun b hb => by
  obtain ⟨g, c, hc, hf⟩ := h.z b hb
  obtain ⟨k1, k2⟩ := hk b _ g hf
  exact ⟨k2, c, hc, k1⟩⟩, fun b o hg hf => (hk b o hg hf).1⟩
theorem Sd.var (h : Sd G F M) {x : Nat} (hx : F x = none) {c : Array Value} (hc : c.size = 3) : Sd G (F.set x (.cells c 28)) (x :: M) := by
 refine ⟨le_set_new h.le (le_none h.le hx), fun b hb => ?_⟩
 rcases List.mem_cons.1 hb with rfl | hb
 ·exact ⟨le_none h.le hx, c, hc, set_eq _ _ _⟩
 ·obtain ⟨g, c', hc', hf⟩ := h.z b hb
  exact ⟨g, c', hc', by rw [set_ne _ _ (ne_of_fresh hx hf)]; exact hf⟩
theorem Sd.new (h : Sd G F M) {x : Nat} (hx : F x = none) (o : Obj) : Sd (G.set x o) (F.set x o) M := by
 refine ⟨fun y p hy => ?_, fun b hb => ?_⟩
 ·by_cases e : y = x
  ·rw [e, set_eq] at hy ⊢
   exact hy
  ·rw [set_ne _ _ e] at hy ⊢
   exact h.le _ _ hy
 ·obtain ⟨g, c, hc, hf⟩ := h.z b hb
  have := ne_of_fresh hx hf
  exact ⟨by rw [set_ne _ _ this]; exact g, c, hc, by rw [set_ne _ _ this]; exact hf⟩
theorem Sd.gle (h : Sd G F M) {x : Nat} (hx : F x = none) (o : Obj) : G.le (G.set x o) := le_set_fresh o (le_none h.le hx)
theorem Sd.put (h : Sd G F M) {b : Nat} (hb : b ∈ M) {v : Array Value} (hv : v.size = 3) : Sd G (F.set b (.cells v 28)) M := by
 refine ⟨le_set_new h.le (h.z b hb).1, fun x hx => ?_⟩
 by_cases e : x = b
 ·subst e
  exact ⟨(h.z x hx).1, v, hv, set_eq _ _ _⟩
 ·obtain ⟨g, c, hc, hf⟩ := h.z x hx
  exact ⟨g, c, hc, by rw [set_ne _ _ e]; exact hf⟩
theorem Sd.store (h : Sd G F M) {b : Nat} (hb : b ∈ M) {v : Array Value} (hv : v.size = 3) (hst : ∀ x ∈ v.toList, storable x) {K : PH → Prop} (k : Sd G (F.set b (.cells v 28)) M → K (F.set b (.cells v 28))) :
  v.size = 3 ∧ (∀ x ∈ v.toList, storable x) ∧ ∃ c e, F (Addr.mk b 0 none).block = some (.cells c e (0, 0)) ∧ (Addr.mk b 0 none).spot = none ∧ (Addr.mk b 0 none).off + 3 ≤ c.size ∧
   atF (F.set (Addr.mk b 0 none).block (.cells (wr c (Addr.mk b 0 none).off v.toList) e)) K := by
 obtain ⟨_, c, hc, hf⟩ := h.z b hb
 exact stW hf hv hc hst (k (h.put hb hv))
end
theorem size_spec {F : PH} {n : Int} (h0 : 0 ≤ n) (h1 : n ≤ 255) : Spec prog 12 #[.int .u8 n] F fun v F' => v = .int .i64 (4 + n % 40) ∧ F' = F := by
 refine c12 ?_
 unfold b12
 refine ⟨?_, rfl⟩
 rw [Int.tmod_eq_emod_of_nonneg h0, w64_eq (x := n % 40) (by omega) (by omega), w64_eq (by omega) (by omega)]
theorem act_le {F G : PH} {fp : Nat → Prop} {n : Nat} {s : DS} {st cm d : Nat} {x : SS} (h : Act F fp n s st cm d x) (l : F.le G) : Act G fp n s st cm d x := by
 obtain ⟨⟨fd, K, h1, h2⟩, h3⟩ := h
 exact ⟨⟨fd, K, h1.le (mns_mono l), h2⟩, h3.le l (mns_mono l)⟩
structure St (F : PH) (fp : Nat → Prop) (n : Nat) (s : DS) (st cm d : Nat) (x : SS) (slm : Sl) : Prop where
 act : Act F fp n s st cm d x
 fine : Fine s n
 inv : SInv s.rd n x
 br : x.broken = false
 ref : Ct (mns F fp) slm x.L
theorem St.le {F G : PH} {fp : Nat → Prop} {n : Nat} {s : DS} {st cm d : Nat} {x : SS} {slm : Sl} (h : St F fp n s st cm d x slm) (l : F.le G) : St G fp n s st cm d x slm :=
 ⟨act_le h.act l, h.fine, h.inv, h.br, h.ref.le (mns_mono l)⟩
theorem Act.dom {F : PH} {fp : Nat → Prop} {n : Nat} {s : DS} {st cm d : Nat} {x : SS} (h : Act F fp n s st cm d x) : ∀ b, fp b → F b ≠ none := by
 obtain ⟨fd, K, rfl, ha⟩ := h.open
 exact ha.dom
theorem fresh_spec {F : PH} {n : Nat} (h4 : 4 ≤ n) (hn : n ≤ 500) : Spec prog 11 #[.int .i64 (n : Int)] F fun v F' => ∃ d st cm fp s, v = .tuple #[.pointer (some ⟨d, 0, none⟩), .pointer (some ⟨st, 0, none⟩), .agg (refC n 0 Sl.nil), .bool true] ∧
  St F' fp n s st cm d (empt n) Sl.nil ∧ s.fuse = 0 ∧ s.kept = [] ∧ F.le F' ∧ ∀ b, fp b → F b = none := by
 refine c11 ?_
 unfold b11
 intro b4 h4'
 refine atI ?_
 have hs := (Sd.start F).var h4' (c := #[.int .i64 0, .int .i64 0, .slice none 0 0]) rfl
 generalize F.set b4 (.cells #[.int .i64 0, .int .i64 0, .slice none 0 0] 28) = F1 at *
 refine (hs.call (new_spec (k := (n : Int)) F (by omega) (by omega))).mono ?_
 rintro v F2 ⟨G2, h, hs2, _⟩
 rcases h with ⟨h1, _⟩ | ⟨h1, _⟩ | ⟨_, _, d, fd, rfl, l2, hd, hnew⟩
 ·omega
 ·omega
 refine ⟨_, _, rfl, fun h => absurd rfl h, fun _ => ?_⟩
 rw [Int.toNat_natCast] at hd
 refine (hs2.call (Format_spec hd ⟨rfl, Int.le_refl _⟩ rfl hn (by simp))).mono ?_
 rintro v F3 ⟨G3, h, hs3, _⟩
 rcases h with ⟨h1, _⟩ | ⟨_, st, cm, s, fd3, K3, rfl, hact, hfine, hfz, hinv, hkp, hstep⟩
 ·omega
 obtain ⟨l3, hnew3⟩ := hstep.fresh l2 hnew
 refine ⟨_, _, rfl, ?_⟩
 refine hs3.store (v := refC n 0 Sl.nil) (List.mem_singleton_self _) rfl st_refC ?_
 intro hs4
 refine ⟨_, rfl, row_whole (set_eq _ _ _), d, st, cm, _, s, rfl, ?_, hfz, List.eq_nil_of_length_eq_zero (Nat.le_zero.1 hkp), le_trans' l3 hs4.le, hnew3⟩
 exact St.le ⟨hact.act, hfine, hinv, rfl, [], rfl, RdS.nil _ _, fun y hy => (by cases hy)⟩ hs4.le
structure Fell (F : PH) (fp : Nat → Prop) (n : Nat) (s : DS) (st cm d : Nat) (x : SS) (L' : List Rc) (fp' : Nat → Prop) (s' : DS) (x' : SS) (F' : PH) : Prop where
 fz : s.fuse ≠ 0
 act : Act F' fp' n s' st cm d x'
 dead : Dead s' n
 cont : x'.L = x.L
 broken : x'.broken = true
 disk : ∃ y, SInv s'.rd n y ∧ (y.L = x.L ∨ y.L = L') ∧ y.num ≤ x.num + 1 ∧ y.size = x.size
 step : Step fp F fp' F'
theorem recsOf_plen {F : PH} {o : OpS} (h : OpRd F o) : plen (recsOf o) ≤ 2000 := by
 have hk : ∀ i ∈ o.its, (recOf i).1.size + (recOf i).2.length + 5 ≤ 400 := by
  intro i hi
  obtain ⟨⟨k0, k1⟩, _, s0, s1⟩ := h.ok i hi
  have h2 : (recOf i).2.length = (i.2.2 % 90).toNat := by simp [recOf]
  have h1 : (recOf i).1.size ≤ 260 := by
   show (keyOf i.1).size ≤ 260
   unfold keyOf
   split
   ·rw [kks_size]; omega
   ·split
    ·exact Nat.zero_le _
    ·unfold keyT
     have : (i.1 % 6).toNat < 6 := by omega
     generalize (i.1 % 6).toNat = j at *
     match j, this with
     | 0, _ => decide
     | 1, _ => decide
     | 2, _ => decide
     | 3, _ => decide
     | 4, _ => decide
     | 5, _ => decide
  omega
 have gen : ∀ l : List Itm, (∀ i ∈ l, (recOf i).1.size + (recOf i).2.length + 5 ≤ 400) → plen (l.map recOf) ≤ l.length * 400 := by
  intro l
  induction l with
  | nil => intro _; exact Nat.le_refl _
  | cons i l ih =>
   intro hl
   rw [List.map_cons, plen_cons, List.length_cons]
   have := hl i (List.mem_cons_self ..)
   have := ih fun j hj => hl j (List.mem_cons_of_mem _ hj)
   omega
 have := gen (o.its.take 4) fun i hi => hk i (List.mem_of_mem_take hi)
 have h4 : (o.its.take 4).length ≤ 4 := by rw [List.length_take]; omega
 unfold recsOf
 omega
theorem Ct.byt {F G : PH} {n : Nat} {sl : Sl} {x : SS} (_ : Ct G sl x.L) {D : Nat → List Int} (hi : SInv D n x) : BytR x.L := fun r hr => (hi.good.1 r hr).2.2.2
theorem ref_of {s : DS} {n : Nat} {x : SS} {t : List Rc} (hf : Fine s n) (h : SInv s.rd n x) (hbr : x.broken = false) (hn : n ≤ 1000) (hnum : x.num < 9223372036854775806) (hb : ∀ r ∈ t, Byt r.2) :
  ((commitW s n x t).err = (refCommit n x.used x.L t).2.2 ∧ ((commitW s n x t).err = 0 ∨ (commitW s n x t).err = 1 ∨ (commitW s n x t).err = 351) ∧ Fine (commitW s n x t).s n ∧ (s.fuse = 0 → (commitW s n x t).s.fuse = 0) ∧ SInv (commitW s n x t).s.rd n (commitW s n x t).x ∧ (commitW s n x t).x.broken = false ∧
   (commitW s n x t).x.L = (refCommit n x.used x.L t).2.1 ∧ (commitW s n x t).x.used = (refCommit n x.used x.L t).1 ∧ (commitW s n x t).x.num ≤ x.num + 1 ∧ (commitW s n x t).x.size = x.size) ∨
  (Cut s n x (refCommit n x.used x.L t).2.1 (commitW s n x t)) := by
 have hsz := h.size
 rcases commit_run hf h hbr hn hnum hb with ⟨e, hok⟩ | ⟨e, ht⟩ | ⟨e, hok, htn, c1, c2⟩ | ⟨hok, htn, hr⟩
 ·left
  have : refCommit n x.used x.L t = (x.used, x.L, 1) := by unfold refCommit; rw [if_pos hok]
  rw [e, this]
  exact ⟨rfl, .inr (.inl rfl), hf, fun h => h, h, hbr, rfl, rfl, by show x.num ≤ _; omega, rfl⟩
 ·left
  have : refCommit n x.used x.L t = (x.used, x.L, 0) := by
   unfold refCommit
   rw [if_neg (by rw [ht]; exact fun hh => hh (fun r hr => by cases hr)), if_pos ht]
  rw [e, this]
  exact ⟨rfl, .inl rfl, hf, fun h => h, h, hbr, rfl, rfl, by show x.num ≤ _; omega, rfl⟩
 ·left
  have : refCommit n x.used x.L t = (x.used, x.L, 351) := by
   unfold refCommit
   rw [if_neg (fun hh => hh hok), if_neg htn, if_pos (by omega), if_pos (by omega)]
  rw [e, this]
  exact ⟨rfl, .inr (.inr rfl), hf, fun h => h, h, hbr, rfl, rfl, by show x.num ≤ _; omega, rfl⟩
 ·have hrc : refCommit n x.used x.L t = if n / 2 - 1 - x.used < secs (plen t) then
   if n / 2 - 1 - snapN x.L < secs (plen t) then (x.used, x.L, 351) else (snapN x.L + secs (plen t), afterR x.L t, 0)
   else (x.used + secs (plen t), afterR x.L t, 0) := by
   conv => lhs; unfold refCommit
   rw [if_neg (fun hh => hh hok), if_neg htn]
  rcases hr with ⟨c1, w⟩ | ⟨c1, c2, w⟩ | ⟨c, w⟩
  ·left
   have : refCommit n x.used x.L t = (x.used + secs (plen t), afterR x.L t, 0) := by rw [hrc, if_neg (by omega)]
   rw [this]
   exact ⟨w.err, .inl w.err, w.fine, w.nof, w.inv, w.broken, w.cont, w.used, w.num, w.size⟩
  ·left
   have : refCommit n x.used x.L t = (snapN x.L + secs (plen t), afterR x.L t, 0) := by rw [hrc, if_pos (by omega), if_neg (by omega)]
   rw [this]
   exact ⟨w.err, .inl w.err, w.fine, w.nof, w.inv, w.broken, w.cont, w.used, w.num, w.size⟩
  ·right
   have : (refCommit n x.used x.L t).2.1 = afterR x.L t := by
    rw [hrc]
    split
    ·rw [if_neg (by omega)]
    ·rfl
   rw [this]
   exact w
noncomputable def refStep (n u : Nat) (L : List Rc) (o : OpS) : Nat × List Rc :=
 if o.kind % 8 = 5 then (snapN L, L) else if o.kind % 8 = 6 ∨ o.kind % 8 = 7 then (u, L) else ((refCommit n u L (recsOf o)).1, (refCommit n u L (recsOf o)).2.1)
def Ran (F : PH) (fp : Nat → Prop) (n : Nat) (s : DS) (st cm d : Nat) (x : SS) (o : OpS) (v : Value) (F' : PH) : Prop :=
 (∃ st' cm' fp' s' x' slm' e, v = .tuple #[.pointer (some ⟨st', 0, none⟩), .agg (refC n x'.used slm'), .int .i64 e, .bool true] ∧ (e = 0 ∨ e = 1 ∨ e = 351) ∧ St F' fp' n s' st' cm' d x' slm' ∧ (s.fuse = 0 → s'.fuse = 0) ∧ s'.kept.length ≤ s.kept.length ∧ x'.num ≤ x.num + 1 ∧ x'.size = x.size ∧ (x'.used, x'.L) = refStep n x.used x.L o ∧ Step fp F fp' F') ∨
 (∃ fp' s' x' u slm' L', v = .tuple #[.pointer (some ⟨st, 0, none⟩), .agg (refC n u slm'), .int .i64 340, .bool true] ∧ Fell F fp n s st cm d x L' fp' s' x' F' ∧ Ct (mns F' fp') slm' L' ∧ plen L' ≤ plen x.L + 2000 ∧ BytR L')
theorem side_le {P : Program} {f : FuncId} {args : Array Value} {F : PH} {fs : Nat → Prop} {R : Value → PH → Prop} (hdom : ∀ b, fs b → F b ≠ none) (h : Spec P f args (mns F fs) fun v G => R v G ∧ (mns F fs).le G) :
  Spec P f args F fun v F' => R v (mns F' fs) ∧ F.le F' ∧ (mns F fs).le (mns F' fs) :=
 (Spec.side hdom h).mono fun v F' ⟨⟨hr, hl⟩, hk⟩ => ⟨hr, fun b o hb => by
  by_cases e : fs b
  ·rw [hk b e]
   exact hb
  ·exact mns_le _ _ _ _ (hl b o (by rw [mns_of e]; exact hb)), hl⟩
theorem Step.fin {fp fq : Nat → Prop} {F G H : PH} (h : Step fp F fq G) (l : G.le H) : Step fp F fq H := h.trans (Step.of_le l)
section
variable {F : PH} {fp : Nat → Prop} {n : Nat} {s : DS} {st cm d : Nat} {x : SS} {slm : Sl} {o : OpS}
theorem run_spec (h : St F fp n s st cm d x slm) (ho : OpRd (mns F fp) o) (hn : n ≤ 500) (hnum : x.num ≤ 1000000) :
  Spec prog 14 #[.pointer (some ⟨d, 0, none⟩), .pointer (some ⟨st, 0, none⟩), .agg (refC n x.used slm), .agg o.cells] F fun v F' => Ran F fp n s st cm d x o v F' := by
 have h4 := h.inv.n4
 have hsz := h.inv.size
 have hsm := h.inv.small (by omega)
 have hpl := hsm.len
 have hbyt : BytR x.L := fun r hr => (h.inv.good.1 r hr).2.2.2
 have hsn := h.inv.snap
 refine c14 ?_
 unfold b14
 intro b6 h6
 refine atI ?_
 have l6 := le_set_fresh (.cells (refC n x.used slm) 28) h6
 have q6 := set_eq F b6 (.cells (refC n x.used slm) 28)
 generalize F.set b6 (.cells (refC n x.used slm) 28) = F1 at *
 intro b7 h7
 refine atI ?_
 have l7 := le_set_fresh (.cells o.cells 38) h7
 have q7 := set_eq F1 b7 (.cells o.cells 38)
 have q6' := l7 _ _ q6
 have l2 := le_trans' l6 l7
 generalize F1.set b7 (.cells o.cells 38) = F2 at *
 intro b9 h9
 refine atI ?_
 have hs := (Sd.start F2).var h9 (c := #[.int .i64 0, .int .i64 0, .slice none 0 0]) rfl
 have lF3 := hs.le
 generalize F2.set b9 (.cells #[.int .i64 0, .int .i64 0, .slice none 0 0] 28) = F3 at *
 have m9 : b9 ∈ [b9] := List.mem_singleton_self _
 have h2 := h.le l2
 have s02 : Step fp F fp F2 := Step.of_le l2
 have nf6 : ¬ fp b6 := fun hb => h.act.dom b6 hb h6
 have nf7 : ¬ fp b7 := fun hb => h.act.dom b7 hb (le_none l6 h7)
 have kept : ∀ {fp' : Nat → Prop} {G : PH}, Step fp F2 fp' G → G b6 = some (.cells (refC n x.used slm) 28 (0, 0)) ∧ G b7 = some (.cells o.cells 38 (0, 0)) := fun hst => ⟨hst.keep _ _ q6' nf6, hst.keep _ _ q7 nf7⟩
 have hkind := ho.kind
 have em : Int.tmod o.kind 8 = o.kind % 8 := Int.tmod_eq_emod_of_nonneg hkind.1
 refine ⟨o.kind, by rw [cell_eq (lF3 _ _ q7)]; rfl, ?_⟩
 rw [em]
 obtain ⟨fd, K, rfl, ha⟩ := h2.act.open
 refine ⟨fun h5 => ?_, fun h5 => ?_⟩
 ·-- a compaction
  refine (hs.call (Compact_spec ha (fun _ => h.fine) (fun _ => h.inv) (by omega) (fun _ => by omega))).mono ?_
  rintro v F4 ⟨G4, ⟨rfl, fd4, ha4, hst4⟩, hs4, _⟩
  obtain ⟨k6, k7⟩ := kept hst4
  have href := h2.ref.le hst4.le
  refine ⟨_, rfl, _, rfl, row_whole (hs4.le _ _ k6), ?_⟩
  refine (hs4.call (CompactR_spec (href.le (mns_le _ _)) (by omega))).mono ?_
  rintro v F5 ⟨G5, ⟨rfl, l5⟩, hs5, _⟩
  have ha5 := ha4.le l5
  have href5 := href.le (mns_mono (fp := fpo fd4 st cm) l5)
  have st5 := (s02.trans hst4).fin l5
  rcases compW_run h.fine h.inv h.br (by omega) (by omega) with w | c
  ·refine ⟨_, rfl, fun _ => ?_, fun hne => absurd w.err hne⟩
   refine hs5.store m9 rfl st_refC ?_
   intro hs6
   refine ⟨_, rfl, row_whole (set_eq _ _ _), .inl ⟨st, cm, fpo fd4 st cm, _, _, slm, 0, ?_, .inl rfl, St.le ⟨ha5.act, w.fine, w.inv, w.broken, ?_⟩ hs6.le, w.nof, compW_kept s n x, w.num, w.size, by rw [w.used, w.cont]; unfold refStep; rw [if_pos h5], st5.fin hs6.le⟩⟩
   ·rw [w.used, w.err]
   ·rw [w.cont]; exact href5
  ·refine ⟨_, rfl, fun h0 => absurd (c.err.symm.trans h0) (by decide), fun _ => ?_⟩
   refine hs5.store m9 rfl st_refC ?_
   intro hs6
   refine ⟨_, rfl, row_whole (set_eq _ _ _), .inr ⟨fpo fd4 st cm, _, _, snapN x.L, slm, x.L, ?_, ⟨c.fz, act_le ha5.act hs6.le, c.dead, c.cont, c.broken, ?_, st5.fin hs6.le⟩, href5.le (mns_mono (fp := fpo fd4 st cm) hs6.le), by omega, hbyt⟩⟩
   ·rw [c.err]
    rfl
   ·obtain ⟨y, y1, y2, y3, y4⟩ := c.disk
    exact ⟨y, y1, y2, y3, y4⟩
 -- opened again
 have opn : (o.kind % 8 = 6 ∨ o.kind % 8 = 7) → b14j1 (some ⟨d, 0, none⟩) (some ⟨st, 0, none⟩) b6 b7 b9 true (fun v F' => Ran F (fpo fd st cm) n s st cm d x o v F') F3 := by
  intro h67
  unfold b14j1
  refine ⟨fun _ => ?_, fun h0 => (by cases h0)⟩
  have hd2 : DRep F2 K d fd n s := ha.hd.le (mns_le _ _)
  refine (hs.call (open_spec hd2 h.fine.up (by omega) h.inv.byt (.inr (.inr h.inv)))).mono ?_
  rintro v F4 ⟨G4, ⟨l4, hr⟩, hs4, _⟩
  rcases hr with ⟨hr, _⟩ | ⟨_, hr, _⟩ | ⟨_, st', cm', _, rfl, hst', hcm', _, hact⟩
  ·omega
  ·rw [pick_inv h.inv] at hr
   have := h.inv.num1
   simp only at hr
   omega
  ·refine ⟨_, _, rfl, fun h0 => absurd rfl h0, fun _ => ?_⟩
   have k6 := l4 _ _ q6'
   refine ⟨_, rfl, row_whole (hs4.le _ _ k6), ?_⟩
   refine hs4.store m9 rfl st_refC ?_
   intro hs5
   have hxb : ({ x with broken := false } : SS) = x := by
    have := h.br
    cases x
    simp only at this
    subst this
    rfl
   rw [hxb] at hact
   have hnew : (mns F2 (fpo fd st cm)).le (mns G4 (fun b => fd b ∨ b = st' ∨ b = cm')) := fun b p hb => by
    have h1 := mns_le _ _ _ _ hb
    have h3 : ¬ fpo fd st cm b := fun e => by unfold mns at hb; rw [if_pos e] at hb; cases hb
    rw [mns_of]
    ·exact l4 _ _ h1
    ·rintro (e | rfl | rfl)
     ·exact h3 (.inl e)
     ·rw [hst'] at h1; cases h1
     ·rw [hcm'] at h1; cases h1
   refine ⟨_, rfl, row_whole (set_eq _ _ _), .inl ⟨st', cm', _, s, x, slm, 0, rfl, .inl rfl, St.le ⟨hact, h.fine, h.inv, h.br, h2.ref.le hnew⟩ hs5.le, fun e => e, Nat.le_refl _, by omega, rfl, by unfold refStep; rw [if_neg h5, if_pos h67], ⟨(s02.fin (le_trans' l4 hs5.le)).keep, fun b hb => ?_⟩⟩⟩
   rcases hb with e | rfl | rfl
   ·exact .inl (.inl e)
   ·exact .inr (le_none l2 hst')
   ·exact .inr (le_none l2 hcm')
 -- a transaction
 have trs : ¬ (o.kind % 8 = 6 ∨ o.kind % 8 = 7) → b14j1 (some ⟨d, 0, none⟩) (some ⟨st, 0, none⟩) b6 b7 b9 false (fun v F' => Ran F (fpo fd st cm) n s st cm d x o v F') F3 := by
  intro h67
  unfold b14j1
  refine ⟨fun h0 => (by cases h0), fun _ => ?_⟩
  have hfd : ∀ b, fpo fd st cm b → F2 b ≠ none := ha.dom
  have ho2 : OpRd (mns F2 (fpo fd st cm)) o := ho.le (mns_mono l2)
  refine ⟨_, rfl, row_whole (hs.le _ _ q7), ?_⟩
  refine (hs.call (side_le (R := fun v G => ∃ sl, v = Sl.v sl ∧ Ct G sl (recsOf o)) hfd ((Records_spec (a := o.cells) rfl ho2).mono fun _ _ ⟨sl, h1, h2, h3⟩ => ⟨⟨sl, h1, h2⟩, h3⟩))).mono ?_
  rintro v F4 ⟨G4, ⟨⟨tl, rfl, htl⟩, l4, m4⟩, hs4, _⟩
  have ha4 := ha.le l4
  have hrb := recsOf_byt ho2
  have hrl := recsOf_len o
  refine ⟨tl, rfl, ?_⟩
  obtain ⟨T, hT, hRT⟩ := htl
  have hTl : T.length = (recsOf o).length := by rw [← hT, rcs_len]
  refine (hs4.call (Commit_spec ha4 (fun _ => h.fine) (fun _ => h.inv) (by omega) (fun _ => by omega) hRT (by omega) (by rw [hT]; exact hrb))).mono ?_
  rw [hT]
  rintro v F5 ⟨G5, ⟨rfl, fd5, ha5, hst5⟩, hs5, _⟩
  have st25 : Step (fpo fd st cm) F2 (fpo fd5 st cm) G5 := (Step.of_le l4).trans hst5
  obtain ⟨k6, k7⟩ := kept st25
  have hd5 := ha5.dom
  have ho5 : OpRd (mns G5 (fpo fd5 st cm)) o := ho2.le st25.le
  have href5 : Ct (mns G5 (fpo fd5 st cm)) slm x.L := h2.ref.le st25.le
  have hcase := ref_of (t := recsOf o) h.fine h.inv h.br (by omega) (by omega) hrb
  have hrp := recsOf_plen ho2
  -- what is returned
  have fin : ∀ (F8 G8 : PH) (sl' : Sl) (b : Bool), b = true → G8.le F8 → ActD G8 K fd5 n (commitW s n x (recsOf o)).s st cm d (commitW s n x (recsOf o)).x → Ct (mns G8 (fpo fd5 st cm)) sl' (refCommit n x.used x.L (recsOf o)).2.1 → Step (fpo fd st cm) F2 (fpo fd5 st cm) G8 →
    Ran F (fpo fd st cm) n s st cm d x o (.tuple #[.pointer (some ⟨st, 0, none⟩), .agg (refC n (refCommit n x.used x.L (recsOf o)).1 sl'), .int .i64 (commitW s n x (recsOf o)).err, .bool b]) F8 := by
   intro F8 G8 sl' b hb l8 ha8 hc8 st8
   subst hb
   rcases hcase with ⟨c1, c2, c3, c4, c5, c6, c7, c8, c9, c10⟩ | c
   ·exact .inl ⟨st, cm, _, _, _, sl', _, by rw [c8], c2, St.le ⟨ha8.act, c3, c5, c6, by rw [c7]; exact hc8⟩ l8, c4, commitW_kept s n x (recsOf o), c9, c10, by rw [c8, c7]; unfold refStep; rw [if_neg h5, if_neg h67], (s02.trans st8).fin l8⟩
   ·refine .inr ⟨_, _, _, _, sl', _, by rw [c.err], ⟨c.fz, act_le ha8.act l8, c.dead, c.cont, c.broken, c.disk, (s02.trans st8).fin l8⟩, hc8.le (mns_mono l8), ?_, ?_⟩
    ·unfold refCommit
     have := afterR_plen (recsOf o) x.L
     split
     ·show plen x.L ≤ _; omega
     ·split
      ·show plen x.L ≤ _; omega
      ·split
       ·split
        ·show plen x.L ≤ _; omega
        ·show plen (afterR _ _) ≤ _; omega
       ·show plen (afterR _ _) ≤ _; omega
    ·have haft : BytR (afterR x.L (recsOf o)) := fun r hr => by
      rcases afterR_mem hr with h1 | h1
      ·exact hrb r h1.1
      ·exact hbyt r h1
     unfold refCommit
     split
     ·exact hbyt
     ·split
      ·exact hbyt
      ·split
       ·split
        ·exact hbyt
        ·exact haft
       ·exact haft
  have j2 : ∀ (F7 G7 : PH) (M : List Nat) (b16 : Nat) (sl' : Sl), Sd G7 F7 M → b9 ∈ M → F7 b16 = some (.cells (refC n (refCommit n x.used x.L (recsOf o)).1 sl') 28 (0, 0)) → ActD G7 K fd5 n (commitW s n x (recsOf o)).s st cm d (commitW s n x (recsOf o)).x → Ct (mns G7 (fpo fd5 st cm)) sl' (refCommit n x.used x.L (recsOf o)).2.1 → Step (fpo fd st cm) F2 (fpo fd5 st cm) G7 →
    b14j2 (some ⟨st, 0, none⟩) b9 (commitW s n x (recsOf o)).err (some ⟨b16, 0, none⟩) (refCommit n x.used x.L (recsOf o)).2.2 (fun v F' => Ran F (fpo fd st cm) n s st cm d x o v F') F7 := by
   intro F7 G7 M b16 sl' hs7 hm h16 ha7 hc7 st7
   unfold b14j2
   refine ⟨_, rfl, _, rfl, row_whole h16, fun _ => ?_, fun hne => ?_⟩
   ·refine hs7.store hm rfl st_refC ?_
    intro hs8
    exact ⟨_, rfl, row_whole (set_eq _ _ _), fin _ _ _ _ rfl hs8.le ha7 hc7 st7⟩
   ·refine hs7.store hm rfl st_refC ?_
    intro hs8
    refine ⟨_, rfl, row_whole (set_eq _ _ _), fin _ _ _ _ ?_ hs8.le ha7 hc7 st7⟩
    rcases hcase with c | c
    ·exact absurd c.1 hne
    ·rw [c.err]
     rfl
  -- the reference's part
  have rec22 : ∀ {F6 G6 : PH} {M : List Nat}, Sd G6 F6 M → G5.le G6 → (mns G5 (fpo fd5 st cm)).le (mns G6 (fpo fd5 st cm)) → Spec prog 22 #[.agg o.cells] F6 fun v F7 => ∃ G7 tl2, v = Sl.v tl2 ∧ Ct (mns G7 (fpo fd5 st cm)) tl2 (recsOf o) ∧ Sd G7 F7 M ∧ G5.le G7 ∧ (mns G5 (fpo fd5 st cm)).le (mns G7 (fpo fd5 st cm)) ∧ (∀ b o, G6 b = none → F6 b = some o → F7 b = some o) := by
   intro F6 G6 M hs6 lg lm
   have hdom : ∀ b, fpo fd5 st cm b → G6 b ≠ none := fun b hb => by
    cases hf : G5 b with
    | none => exact absurd hf (hd5 b hb)
    | some o => rw [lg _ _ hf]; simp
   refine (hs6.call (side_le (R := fun v G => ∃ sl, v = Sl.v sl ∧ Ct G sl (recsOf o)) hdom ((Records_spec (a := o.cells) rfl (ho5.le lm)).mono fun _ _ ⟨sl, h1, h2, h3⟩ => ⟨⟨sl, h1, h2⟩, h3⟩))).mono ?_
   rintro v F7 ⟨G7, ⟨⟨tl2, rfl, htl2⟩, l7, m7⟩, hs7, hk⟩
   exact ⟨G7, tl2, rfl, htl2, hs7, le_trans' lg l7, le_trans' lm m7, hk⟩
  have com42 : ∀ {F6 G6 : PH} {M : List Nat} {tl2 : Sl}, Sd G6 F6 M → G5.le G6 → (mns G5 (fpo fd5 st cm)).le (mns G6 (fpo fd5 st cm)) → Ct (mns G6 (fpo fd5 st cm)) tl2 (recsOf o) → Spec prog 42 #[.agg (refC n x.used slm), Sl.v tl2] F6 fun v F7 => ∃ G7 sl', v = .tuple #[.agg (refC n (refCommit n x.used x.L (recsOf o)).1 sl'), .int .i64 (refCommit n x.used x.L (recsOf o)).2.2] ∧
    Ct (mns G7 (fpo fd5 st cm)) sl' (refCommit n x.used x.L (recsOf o)).2.1 ∧ Sd G7 F7 M ∧ G5.le G7 ∧ (∀ b o, G6 b = none → F6 b = some o → F7 b = some o) := by
   intro F6 G6 M tl2 hs6 lg lm hc
   have hdom : ∀ b, fpo fd5 st cm b → G6 b ≠ none := fun b hb => by
    cases hf : G5 b with
    | none => exact absurd hf (hd5 b hb)
    | some o => rw [lg _ _ hf]; simp
   refine (hs6.call (side_le (R := fun v G => ∃ sl', v = .tuple #[.agg (refC n (refCommit n x.used x.L (recsOf o)).1 sl'), .int .i64 (refCommit n x.used x.L (recsOf o)).2.2] ∧ Ct G sl' (refCommit n x.used x.L (recsOf o)).2.1) hdom ((CommitR_spec (href5.le lm) hc (by omega) h4 (by omega) (by omega) (by omega)).mono fun _ _ ⟨sl, h1, h2, h3⟩ => ⟨⟨sl, h1, h2⟩, h3⟩))).mono ?_
   rintro v F7 ⟨G7, ⟨⟨sl', rfl, hsl'⟩, l7, m7⟩, hs7, hk⟩
   exact ⟨G7, sl', rfl, hsl', hs7, le_trans' lg l7, hk⟩
  have st7 : ∀ {G7 : PH}, G5.le G7 → Step (fpo fd st cm) F2 (fpo fd5 st cm) G7 := fun l => st25.fin l
  refine ⟨_, rfl, _, rfl, row_whole (hs5.le _ _ k6), _, rfl, row_whole (hs5.le _ _ k7), ⟨?_, ?_⟩⟩
  ·refine (rec22 hs5 (le_refl' _) (le_refl' _)).mono ?_
   rintro v F6 ⟨G6, tl2, rfl, htl2, hs6, lg6, lm6, _⟩
   refine ⟨tl2, rfl, row_whole (hs6.le _ _ (lg6 _ _ k6)), ⟨?_, ?_⟩⟩
   ·refine (com42 hs6 lg6 lm6 htl2).mono ?_
    rintro v F7 ⟨G7, sl', rfl, hsl', hs7, lg7, _⟩
    refine ⟨_, _, rfl, ?_⟩
    intro b16 h16
    refine atI ?_
    have hs8 := hs7.var h16 (c := #[.int .i64 0, .int .i64 0, .slice none 0 0]) rfl
    refine hs8.store (List.mem_cons_self ..) rfl st_refC ?_
    intro hs9
    exact j2 _ _ _ _ sl' hs9 (List.mem_cons_of_mem _ m9) (set_eq _ _ _) (ha5.le lg7) hsl' (st7 lg7)
   ·intro b16 h16
    refine atI ?_
    have hs7 := hs6.var h16 (c := #[.int .i64 0, .int .i64 0, .slice none 0 0]) rfl
    refine (com42 hs7 lg6 lm6 htl2).mono ?_
    rintro v F7 ⟨G7, sl', rfl, hsl', hs8, lg7, _⟩
    refine ⟨_, _, rfl, ?_⟩
    refine hs8.store (List.mem_cons_self ..) rfl st_refC ?_
    intro hs9
    exact j2 _ _ _ _ sl' hs9 (List.mem_cons_of_mem _ m9) (set_eq _ _ _) (ha5.le lg7) hsl' (st7 lg7)
  ·intro b16 h16
   refine atI ?_
   have hs6 := hs5.var h16 (c := #[.int .i64 0, .int .i64 0, .slice none 0 0]) rfl
   refine (rec22 hs6 (le_refl' _) (le_refl' _)).mono ?_
   rintro v F7 ⟨G7, tl2, rfl, htl2, hs7, lg7, lm7, _⟩
   refine ⟨tl2, rfl, row_whole (hs7.le _ _ (lg7 _ _ k6)), ?_⟩
   refine (com42 hs7 lg7 lm7 htl2).mono ?_
   rintro v F8 ⟨G8, sl', rfl, hsl', hs8, lg8, _⟩
   refine ⟨_, _, rfl, ?_⟩
   refine hs8.store (List.mem_cons_self ..) rfl st_refC ?_
   intro hs9
   exact j2 _ _ _ _ sl' hs9 (List.mem_cons_of_mem _ m9) (set_eq _ _ _) (ha5.le lg8) hsl' (st7 lg8)
 refine ⟨fun h6 => ?_, fun h6 => ?_⟩
 ·rw [show decide (o.kind % 8 = 6) = true from decide_eq_true h6]
  exact opn (.inl h6)
 ·by_cases h7 : o.kind % 8 = 7
  ·rw [show decide (o.kind % 8 = 7) = true from decide_eq_true h7]
   exact opn (.inr h7)
  ·rw [show decide (o.kind % 8 = 7) = false from decide_eq_false h7]
   exact trs (fun h => h.elim h6 h7)
end
structure Sr (F : PH) (fp : Nat → Prop) (n : Nat) (s : DS) (st cm d : Nat) (x : SS) : Prop where
 act : Act F fp n s st cm d x
 fine : Fine s n
 inv : SInv s.rd n x
 br : x.broken = false
 fz : s.fuse = 0
 n500 : n ≤ 500
 num : x.num ≤ 1000000
section
variable {F G : PH} {fp : Nat → Prop} {n : Nat} {s : DS} {st cm d : Nat} {x : SS}
theorem Sr.le (h : Sr F fp n s st cm d x) (l : F.le G) : Sr G fp n s st cm d x := ⟨act_le h.act l, h.fine, h.inv, h.br, h.fz, h.n500, h.num⟩
theorem Sr.sto (h : Sr F fp n s st cm d x) : StO F F st cm d x := by
 obtain ⟨fd, K, rfl, ha⟩ := h.act.open
 exact ha.sto
theorem Sr.small (h : Sr F fp n s st cm d x) : Small x.L := h.inv.small (by have := h.n500; omega)
theorem Sr.sizes (h : Sr F fp n s st cm d x) : 1 ≤ x.size ∧ x.size ≤ 1000 ∧ x.used ≤ 1000 ∧ 4 ≤ n ∧ x.size = n / 2 := by
 have h1 := h.inv.n4
 have h2 := h.inv.size
 have h3 := h.inv.snap
 have h4 := h.n500
 omega
theorem Sr.byt (h : Sr F fp n s st cm d x) : BytR x.L := fun r hr => (h.inv.good.1 r hr).2.2.2
theorem Sr.room (h : Sr F fp n s st cm d x) : Spec prog 18 #[.pointer (some ⟨st, 0, none⟩)] F fun v F' => v = .int .i64 (roomI x.size x.used) ∧ F' = F := by
 obtain ⟨h1, h2, h3, _, _⟩ := h.sizes
 exact room_spec h.sto h1 h2 h3
theorem Sr.keys (h : Sr F fp n s st cm d x) : Spec prog 31 #[.pointer (some ⟨st, 0, none⟩)] F fun v F' => ∃ sl : Sl, v = Sl.v sl ∧ sl.len = x.L.length ∧ F.le F' := by
 refine (keys_spec h.sto h.small).mono ?_
 rintro v F' ⟨sl, rfl, hO⟩
 have := hO.len
 rw [List.length_map, Nat.mul_one] at this
 exact ⟨sl, rfl, this.symm, hO.le⟩
theorem Sr.get (h : Sr F fp n s st cm d x) (k : ByteArray) : Spec prog 16 #[.pointer (some ⟨st, 0, none⟩), .string k] F fun v F' => ∃ sl : Sl, v = .tuple #[Sl.v sl, .bool (lkR k x.L).isSome] ∧ RdS F' sl 1 (u8s ((lkR k x.L).getD [])) ∧ F.le F' := by
 refine (get_spec h.sto (le_refl' _) h.small k).mono ?_
 rintro v F' ⟨l, sl, rfl, hr⟩
 exact ⟨sl, rfl, hr.le (mns_le _ _), l⟩
theorem Sr.contents (h : Sr F fp n s st cm d x) : Spec prog 17 #[.pointer (some ⟨st, 0, none⟩)] F fun v F' => ∃ sl, v = Sl.v sl ∧ Ct (mns F' (old F)) sl x.L ∧ F.le F' := contents_spec h.sto (le_refl' _) h.small
theorem Sr.dom (h : Sr F fp n s st cm d x) : ∀ b, fp b → F b ≠ none := h.act.dom
theorem Sr.commit {sl : Sl} {t : List Rc} (h : Sr F fp n s st cm d x) (hnum : x.num < 1000000) (ht : Ct (mns F fp) sl t) (htl : t.length ≤ 1000) (hb : BytR t) :
  Spec prog 25 #[.pointer (some ⟨st, 0, none⟩), sl.v] F fun v F' => ∃ fp' s' x', v = .int .i64 (refCommit n x.used x.L t).2.2 ∧ Sr F' fp' n s' st cm d x' ∧ x'.L = (refCommit n x.used x.L t).2.1 ∧ x'.used = (refCommit n x.used x.L t).1 ∧ x'.size = x.size ∧ x'.num ≤ x.num + 1 ∧ Step fp F fp' F' := by
 obtain ⟨fd, K, rfl, ha⟩ := h.act.open
 obtain ⟨T, rfl, hT⟩ := ht
 have hn := h.n500
 rw [rcs_len] at htl
 refine (Commit_spec ha (fun _ => h.fine) (fun _ => h.inv) (by omega) (fun _ => by omega) hT htl hb).mono ?_
 rintro v F' ⟨rfl, fd', ha', hst⟩
 rcases ref_of (t := rcs T) h.fine h.inv h.br (by omega) (by omega) hb with ⟨c1, c2, c3, c4, c5, c6, c7, c8, c9, c10⟩ | c
 ·exact ⟨_, _, _, by rw [c1], ⟨ha'.act, c3, c5, c6, c4 h.fz, h.n500, by omega⟩, c7, c8, c10, c9, hst⟩
 ·exact absurd h.fz c.fz
theorem Sr.compact (h : Sr F fp n s st cm d x) (hnum : x.num < 1000000) :
  Spec prog 19 #[.pointer (some ⟨st, 0, none⟩)] F fun v F' => ∃ fp' s' x', v = .int .i64 0 ∧ Sr F' fp' n s' st cm d x' ∧ x'.L = x.L ∧ x'.used = snapN x.L ∧ x'.size = x.size ∧ x'.num ≤ x.num + 1 ∧ Step fp F fp' F' := by
 obtain ⟨fd, K, rfl, ha⟩ := h.act.open
 have hn := h.n500
 refine (Compact_spec ha (fun _ => h.fine) (fun _ => h.inv) (by omega) (fun _ => by omega)).mono ?_
 rintro v F' ⟨rfl, fd', ha', hst⟩
 rcases compW_run h.fine h.inv h.br (by omega) (by omega) with w | c
 ·exact ⟨_, _, _, by rw [w.err], ⟨ha'.act, w.fine, w.inv, w.broken, w.nof h.fz, h.n500, by have := w.num; omega⟩, w.cont, w.used, w.size, w.num, hst⟩
 ·exact absurd h.fz c.fz
abbrev nw (F : PH) (st cm : Nat) : Nat → Prop := fun b => F b ≠ none ∨ b = st ∨ b = cm
structure New (F G : PH) (st cm d : Nat) (x : SS) : Prop where
 s : F st = none
 c : F cm = none
 ho : StO G (mns G (nw F st cm)) st cm d x
theorem New.step {H : PH} {fq : Nat → Prop} {st cm d : Nat} {x : SS} (h : New F G st cm d x) (hs : Step fp G fq H) (hf : ∀ b, fp b → F b ≠ none) : New F H st cm d x := by
 refine ⟨h.s, h.c, ?_⟩
 obtain ⟨o, m, g1, g2, g3⟩ := h.ho.hm
 refine ⟨hs.keep _ _ h.ho.hs (fun e => hf _ e h.s), ⟨o, m, hs.keep _ _ g1 (fun e => hf _ e h.c), g2, g3.le fun b o hb => ?_⟩, h.ho.srt⟩
 unfold mns at hb ⊢
 split at hb
 ·cases hb
 ·rename_i hn
  rw [if_neg hn]
  exact hs.keep _ _ hb fun e => hn (.inl (hf _ e))
theorem New.le {H : PH} {st cm d : Nat} {x : SS} (h : New F G st cm d x) (l : G.le H) : New F H st cm d x := ⟨h.s, h.c, h.ho.le l (mns_mono l)⟩
theorem New.sto {st cm d : Nat} {x : SS} (h : New F G st cm d x) : StO G G st cm d x := h.ho.le (le_refl' _) (mns_le _ _)
theorem Sr.opened (h : Sr F fp n s st cm d x) :
  Spec prog 20 #[.pointer (some ⟨d, 0, none⟩)] F fun v F' => ∃ st' cm', v = .tuple #[.pointer (some ⟨st', 0, none⟩), .int .i64 0] ∧ New F F' st' cm' d x ∧ F.le F' := by
 obtain ⟨fd, K, rfl, ha⟩ := h.act.open
 have hn := h.n500
 have hn1 := h.inv.num1
 refine (open_spec (ha.hd.le (mns_le _ _)) h.fine.up (by omega) h.inv.byt (.inr (.inr h.inv))).mono ?_
 rintro v F' ⟨l, hr⟩
 rcases hr with ⟨hr, _⟩ | ⟨_, hr, _⟩ | ⟨_, st', cm', _, rfl, hst', hcm', hsto, _⟩
 ·have := h.inv.n4
  omega
 ·rw [pick_inv h.inv] at hr
  simp only at hr
  omega
 ·refine ⟨st', cm', rfl, ⟨hst', hcm', ?_⟩, l⟩
  have hb := h.br
  cases x
  simp only at hb
  subst hb
  exact hsto
end
theorem secs_1 {p : Nat} (h1 : 1 ≤ p) (h2 : p ≤ 63) : secs p = 2 := by unfold secs; omega
theorem ref1 {n u : Nat} {L : List Rc} {k : ByteArray} {m : Nat} (h1 : 1 ≤ k.size) (h2 : k.size ≤ 255) (h3 : k.size + m + 5 ≤ 63) : refCommit n u L [(k, List.replicate m 0)] =
  if n / 2 - 1 - u < 2 then if n / 2 - 1 - snapN L < 2 then (u, L, 351) else (snapN L + 2, afterR L [(k, List.replicate m 0)], 0) else (u + 2, afterR L [(k, List.replicate m 0)], 0) := by
 have hok : OkT [(k, List.replicate m (0 : Int))] := fun r hr => by
  rw [List.mem_singleton.1 hr]
  simp only [List.length_replicate]
  omega
 have hp : secs (plen [(k, List.replicate m (0 : Int))]) = 2 := by
  rw [plen_cons, plen_nil, List.length_replicate]
  exact secs_1 (by omega) (by omega)
 conv => lhs; unfold refCommit
 rw [if_neg (fun hh => hh hok), if_neg (by simp), hp]
abbrev kA : ByteArray := ByteArray.mk #[97]
abbrev kB : ByteArray := ByteArray.mk #[98]
theorem byt_one (k : ByteArray) (m : Nat) : BytR [(k, List.replicate m (0 : Int))] := fun r hr => by
 rw [List.mem_singleton.1 hr]
 exact byt_rep m
theorem ba_ne : kB ≠ kA := by decide
theorem ba_lt : ¬ ltK kB kA := by decide
section
variable {F : PH}
theorem Sr.one {fp : Nat → Prop} {n : Nat} {s : DS} {st cm d : Nat} {x : SS} (h : Sr F fp n s st cm d x) (hnum : x.num < 1000000) {k : ByteArray} {m : Nat} (hm : m ≤ 1000) {K : Int → PH → Prop}
  (hK : ∀ F' fp' s' x', Sr F' fp' n s' st cm d x' → x'.L = (refCommit n x.used x.L [(k, List.replicate m 0)]).2.1 → x'.used = (refCommit n x.used x.L [(k, List.replicate m 0)]).1 → x'.size = x.size → x'.num ≤ x.num + 1 → Step fp F fp' F' → K (refCommit n x.used x.L [(k, List.replicate m 0)]).2.2 F') :
  Spec prog 40 #[.string k, .int .i64 (m : Int)] F fun v F => ∃ v_59 : Sl, v = Sl.v v_59 ∧ Spec prog 25 #[.pointer (some ⟨st, 0, none⟩), Sl.v v_59] F fun v F => ∃ v_60 : Int, v = .int .i64 v_60 ∧ K v_60 F := by
 refine (side_le (R := fun v G => ∃ sl, v = Sl.v sl ∧ Ct G sl [(k, List.replicate m 0)]) h.dom ((record_spec hm).mono fun _ _ ⟨sl, h1, h2, h3⟩ => ⟨⟨sl, h1, h2⟩, h3⟩)).mono ?_
 rintro v F1 ⟨⟨sl, rfl, hc⟩, l1, m1⟩
 refine ⟨sl, rfl, ?_⟩
 refine ((h.le l1).commit hnum hc (by simp) (byt_one k m)).mono ?_
 rintro v F2 ⟨fp', s', x', rfl, h', e1, e2, e3, e4, e5⟩
 exact ⟨_, rfl, hK F2 fp' s' x' h' e1 e2 e3 e4 ((Step.of_le l1).trans e5)⟩
end
abbrev zD (n : Nat) : DS := ⟨List.replicate (n * 64) 0, [], false, 0, []⟩
theorem zD_rd {n q : Nat} (h : q < n) : (zD n).rd q = List.replicate 64 0 := by
 show sec (List.replicate (n * 64) 0) q = _
 unfold sec
 rw [List.drop_replicate, List.take_replicate]
 congr 1
 omega
theorem zD_pick (n : Nat) (h : 4 ≤ n) : (pick (zD n).rd (n / 2) 2).2 = 0 := by
 have e0 : (zD n).rd (0 * (n / 2)) = List.replicate 64 0 := zD_rd (by omega)
 have e1 : (zD n).rd (1 * (n / 2)) = List.replicate 64 0 := zD_rd (by omega)
 show (pick1 _ 1 (pick1 _ 0 (0, 0))).2 = 0
 rw [e0, e1]
 rfl
theorem zD_byt {n : Nat} : ∀ q, q < n → Byt ((zD n).rd q) ∧ ((zD n).rd q).length = 64 := fun q hq => by
 rw [zD_rd hq]
 exact ⟨byt_rep 64, by simp⟩
section
variable {F : PH} {fd : Nat → Prop} {n d : Nat} {K : PH}
theorem fmt_zero (hd : DRep F K d fd n (zD n)) (h4 : 4 ≤ n) (hn : n ≤ 500) : Spec prog 30 #[.pointer (some ⟨d, 0, none⟩)] F fun v F' => ∃ st cm fp s, v = .tuple #[.pointer (some ⟨st, 0, none⟩), .int .i64 0] ∧ Sr F' fp n s st cm d (empt n) ∧ Step fd F fp F' := by
 refine (Format_spec hd ⟨rfl, Int.le_refl _⟩ rfl hn (by simp)).mono ?_
 rintro v F' (⟨h, _⟩ | ⟨_, st, cm, s, fd', K', rfl, hact, hfine, hfz, hinv, _, hst⟩)
 ·omega
 ·exact ⟨st, cm, _, s, rfl, ⟨hact.act, hfine, hinv, rfl, hfz, hn, by show (1 : Int) ≤ 1000000; omega⟩, hst⟩
theorem open_zero (hd : DRep F K d fd n (zD n)) (h4 : 4 ≤ n) (hn : n ≤ 500) : Spec prog 20 #[.pointer (some ⟨d, 0, none⟩)] F fun v F' => v = .tuple #[.pointer none, .int .i64 350] ∧ F.le F' := by
 refine (open_spec (x := empt n) hd ⟨rfl, Int.le_refl _⟩ (by omega) zD_byt (.inr (.inl (zD_pick n h4)))).mono ?_
 rintro v F' ⟨l, ⟨h, _⟩ | ⟨_, _, rfl⟩ | ⟨_, st, cm, h, _⟩⟩
 ·omega
 ·exact ⟨rfl, l⟩
 ·have := pick_inv h
  have hz := zD_pick n h4
  rw [this] at hz
  cases hz
theorem new_ok (F : PH) {n : Nat} (h1 : 1 ≤ n) (h2 : n ≤ 500) : Spec prog 39 #[.int .i64 (n : Int)] F fun v F' => ∃ d fp, v = .tuple #[.pointer (some ⟨d, 0, none⟩), .int .i64 0] ∧ F.le F' ∧ DRep F' (fun _ => none) d fp n (zD n) ∧ ∀ b, fp b → F b = none := by
 refine (new_spec (k := (n : Int)) F (by omega) (by omega)).mono ?_
 rintro v F' (⟨h, _⟩ | ⟨h, _⟩ | ⟨_, _, d, fp, rfl, l, hd, hn⟩)
 ·omega
 ·omega
 ·rw [Int.toNat_natCast] at hd
  exact ⟨d, fp, rfl, l, hd, hn⟩
end
theorem fresh_le {F F1 F2 : PH} {fp fq : Nat → Prop} (h : Step fp F1 fq F2) (hle : F.le F1) (hf : ∀ b, fp b → F b = none) : F.le F2 ∧ ∀ b, fq b → F b = none := h.fresh hle hf
theorem sanity_spec (F : PH) : Spec prog 10 #[] F fun v F' => v = .bool true ∧ F.le F' := by
 refine c10 ?_
 unfold b10
 refine (new_ok F (n := 8) (by decide) (by decide)).mono ?_
 rintro v F1 ⟨d, fd, rfl, l1, hd, hnew⟩
 refine ⟨_, _, rfl, fun h => absurd rfl h, fun _ => ?_⟩
 refine (open_zero hd (by decide) (by decide)).mono ?_
 rintro v F2 ⟨rfl, l2⟩
 refine ⟨_, _, rfl, ?_⟩
 refine (fmt_zero (hd.le l2) (by decide) (by decide)).mono ?_
 rintro v F3 ⟨st, cm, fp, s, rfl, h3, st3⟩
 obtain ⟨l3, n3⟩ := fresh_le st3 (le_trans' l1 l2) hnew
 refine ⟨_, _, rfl, fun h => absurd rfl h, fun _ => ⟨fun h => absurd rfl h, fun _ => ?_⟩⟩
 refine h3.room.mono ?_
 rintro v F4 ⟨rfl, ee⟩
 obtain rfl := ee.symm
 refine ⟨_, rfl, fun _ => ?_, fun h => absurd rfl h⟩
 refine h3.keys.mono ?_
 rintro v F4 ⟨ks, rfl, hkl, l4⟩
 have h4 := h3.le l4
 have l04 := le_trans' l3 l4
 refine ⟨ks, rfl, fun _ => ?_, fun h => absurd (by rw [hkl]; rfl) h⟩
 have r1 : refCommit 8 (empt 8).used (empt 8).L [(kA, List.replicate 10 (0 : Int))] = (2, [(kA, List.replicate 10 (0 : Int))], 0) := by
  rw [ref1 (by decide) (by decide) (by decide), if_neg (by decide)]
  rfl
 refine h4.one (by show (1 : Int) < 1000000; omega) (by decide) (K := fun v_60 F_1 => ((v_60 = 0 → _) ∧ (¬ v_60 = 0 → _))) ?_
 intro F5 fp5 s5 x5 h5 e1 e2 e3 e4 st5
 rw [r1] at e1 e2 ⊢
 obtain ⟨l5, n5⟩ := fresh_le st5 l04 n3
 simp only at e1 e2
 have sz5 : x5.size = 4 := by rw [e3]; rfl
 have nu5 : x5.num ≤ 2 := by have : (empt 8).num = 1 := rfl; omega
 refine ⟨fun _ => ?_, fun h => absurd rfl h⟩
 refine h5.room.mono ?_
 rintro v F6 ⟨rfl, ee⟩
 obtain rfl := ee.symm
 refine ⟨_, rfl, ?_⟩
 rw [sz5, e2, show decide (roomI 4 2 = 0) = true from rfl]
 unfold b10j1
 have sn : snapN x5.L = 2 := by rw [e1]; decide
 have full : ∀ (k : ByteArray) (m : Nat), 1 ≤ k.size → k.size + m + 5 ≤ 63 → refCommit 8 x5.used x5.L [(k, List.replicate m (0 : Int))] = (x5.used, x5.L, 351) := by
  intro k m h1 h2
  rw [ref1 h1 (by omega) h2, e2, if_pos (by decide), sn, if_pos (by decide)]
 refine h5.one (by omega) (by decide) (K := fun v_60 F_1 => ((v_60 = 351 → _) ∧ (¬ v_60 = 351 → _))) ?_
 intro F7 fp7 s7 x7 h7 g1 g2 g3 g4 st7
 rw [full kB 1 (by decide) (by decide)] at g1 g2 ⊢
 obtain ⟨l7, n7⟩ := fresh_le st7 l5 n5
 simp only at g1 g2
 refine ⟨fun _ => ?_, fun h => absurd rfl h⟩
 refine h7.one (by omega) (by decide) (K := fun v_60 F_1 => ((v_60 = 351 → _) ∧ (¬ v_60 = 351 → _))) ?_
 intro F8 fp8 s8 x8 h8 i1 i2 i3 i4 st8
 rw [g1, g2, full kA 0 (by decide) (by decide)] at i1 i2 ⊢
 obtain ⟨l8, n8⟩ := fresh_le st8 l7 n7
 simp only at i1 i2
 refine ⟨fun _ => ?_, fun h => absurd rfl h⟩
 have r9 : refCommit 8 x8.used x8.L [(ByteArray.mk #[], List.replicate 1 (0 : Int))] = (x8.used, x8.L, 1) := by
  unfold refCommit
  rw [if_pos]
  intro hok
  have := (hok _ (List.mem_singleton_self _)).1
  exact absurd this (by decide)
 refine h8.one (by omega) (by decide) (K := fun v_60 F_1 => ((v_60 = 1 → _) ∧ (¬ v_60 = 1 → _))) ?_
 intro F9 fp9 s9 x9 h9 j1 j2 j3 j4 st9
 rw [r9] at j1 j2 ⊢
 obtain ⟨l9, n9⟩ := fresh_le st9 l8 n8
 simp only at j1 j2
 refine ⟨fun _ => ?_, fun h => absurd rfl h⟩
 have r10 : refCommit 8 x9.used x9.L [] = (x9.used, x9.L, 0) := by
  unfold refCommit
  rw [if_neg (fun hh => hh (fun r hr => by cases hr)), if_pos rfl]
 refine (h9.commit (sl := Sl.nil) (t := []) (by omega) ⟨[], rfl, RdS.nil _ _, fun y hy => (by cases hy)⟩ (by simp) (fun r hr => (by cases hr))).mono ?_
 rintro v F10 ⟨fp10, s10, x10, rfl, h10, k1, k2, k3, k4, st10⟩
 rw [r10] at k1 k2 ⊢
 obtain ⟨l10, n10⟩ := fresh_le st10 l9 n9
 simp only at k1 k2
 refine ⟨_, rfl, ?_⟩
 unfold b10j2
 have hL : x10.L = [(kA, List.replicate 10 (0 : Int))] := by rw [k1, j1, i1, e1]
 have lA : lkR kA x10.L = some (List.replicate 10 (0 : Int)) := by rw [hL]; rfl
 have lB : lkR kB x10.L = none := by rw [hL]; unfold lkR; rw [if_neg (fun e => ba_ne e.symm)]; rfl
 refine (h10.get kA).mono ?_
 rintro v F11 ⟨s11, rfl, hr11, l11⟩
 rw [lA] at hr11 ⊢
 have hs11 : s11.len = 10 := hr11.ulen
 refine ⟨s11, true, rfl, ?_⟩
 refine ((h10.le l11).get kB).mono ?_
 rintro v F12 ⟨s12, rfl, hr12, l12⟩
 rw [lB]
 refine ⟨s12, false, rfl, ?_⟩
 have l012 := le_trans' l10 (le_trans' l11 l12)
 clear hd hnew h3 st3 n3 h4 h5 st5 n5 h7 st7 n7 h8 st8 n8 h9 st9 n9 h10 st10 n10
 refine (new_ok F12 (n := 12) (by decide) (by decide)).mono ?_
 rintro v F13 ⟨d1, fd1, rfl, l13, hd1, hnew1⟩
 refine ⟨_, _, rfl, ?_⟩
 refine (new_ok F13 (n := 3) (by decide) (by decide)).mono ?_
 rintro v F14 ⟨d2, fd2, rfl, l14, hd2, hnew2⟩
 have hd1' := hd1.le l14
 refine ⟨_, _, rfl, fun h => absurd rfl h, fun _ => ⟨fun h => absurd rfl h, fun _ => ?_⟩⟩
 refine (fmt_zero hd1' (by decide) (by decide)).mono ?_
 rintro v F15 ⟨st1, cm1, fp1, s1, rfl, h15, st15⟩
 obtain ⟨l15, n15⟩ := fresh_le st15 (le_trans' l13 l14) hnew1
 have hdj : ∀ b, fd2 b → ¬ fd1 b := fun b hb hb1 => hd1.dom b hb1 (hnew2 b hb)
 have hd2' : DRep F15 (fun _ => none) d2 fd2 3 (zD 3) := hd2.keep (fun b hb => by
  cases hf : F14 b with
  | none => exact absurd hf (hd2.dom b hb)
  | some o => exact st15.keep b o hf (hdj b hb)) (fun b o hb => by cases hb)
 refine ⟨_, _, rfl, ?_⟩
 refine (Format_spec hd2' ⟨rfl, Int.le_refl _⟩ rfl (by decide) (by decide)).mono ?_
 rintro v F16 (⟨_, rfl, ee⟩ | ⟨h, _⟩)
 case inr => exact absurd h (by decide)
 obtain rfl := ee.symm
 refine ⟨_, _, rfl, ?_⟩
 refine (open_spec (x := empt 3) hd2' ⟨rfl, Int.le_refl _⟩ (by decide) zD_byt (.inl (by decide))).mono ?_
 rintro v F16 ⟨l16, ⟨_, rfl⟩ | ⟨h, _⟩ | ⟨h, _⟩⟩
 case inr.inl => exact absurd h (by decide)
 case inr.inr => exact absurd h (by decide)
 refine ⟨_, _, rfl, fun h => absurd rfl h, fun _ => ?_⟩
 have h16 := h15.le l16
 have l016 := le_trans' l012 (le_trans' l15 l16)
 have n16 : ∀ b, fp1 b → F b = none := fun b hb => le_none l012 (n15 b hb)
 have p1 : refCommit 12 (empt 12).used (empt 12).L [(kA, List.replicate 10 (0 : Int))] = (2, [(kA, List.replicate 10 (0 : Int))], 0) := by
  rw [ref1 (by decide) (by decide) (by decide), if_neg (by decide)]
  rfl
 refine h16.one (by show (1 : Int) < 1000000; omega) (by decide) (K := fun v_60 F_1 => ((v_60 = 0 → _) ∧ (¬ v_60 = 0 → _))) ?_
 intro F17 fp17 s17 x17 h17 q1 q2 q3 q4 st17
 rw [p1] at q1 q2 ⊢
 obtain ⟨l17, n17⟩ := fresh_le st17 l016 n16
 simp only at q1 q2
 have nu17 : x17.num ≤ 2 := by have : (empt 12).num = 1 := rfl; omega
 refine ⟨fun _ => ?_, fun h => absurd rfl h⟩
 have p2 : refCommit 12 x17.used x17.L [(kA, List.replicate 20 (0 : Int))] = (4, [(kA, List.replicate 20 (0 : Int))], 0) := by
  rw [ref1 (by decide) (by decide) (by decide), q2, q1, if_neg (by decide)]
  have : afterR [(kA, List.replicate 10 (0 : Int))] [(kA, List.replicate 20 (0 : Int))] = [(kA, List.replicate 20 (0 : Int))] := by
   show wgo (kA, List.replicate 20 (0 : Int)) false [(kA, List.replicate 10 (0 : Int))] = _
   unfold wgo
   rw [if_neg (fun h => ltK_irr _ h.2), if_pos rfl]
   rfl
  rw [this]
 refine h17.one (by omega) (by decide) (K := fun v_60 F_1 => ((v_60 = 0 → _) ∧ (¬ v_60 = 0 → _))) ?_
 intro F18 fp18 s18 x18 h18 t1 t2 t3 t4 st18
 rw [p2] at t1 t2 ⊢
 obtain ⟨l18, n18⟩ := fresh_le st18 l17 n17
 simp only at t1 t2
 have sz18 : x18.size = 6 := by rw [t3, q3]; rfl
 refine ⟨fun _ => ?_, fun h => absurd rfl h⟩
 refine h18.room.mono ?_
 rintro v F19 ⟨rfl, ee⟩
 obtain rfl := ee.symm
 refine ⟨_, rfl, fun _ => ?_, fun h => absurd (by rw [sz18, t2]; rfl) h⟩
 have sn18 : snapN x18.L = 2 := by rw [t1]; decide
 have aft : afterR [(kA, List.replicate 20 (0 : Int))] [(kB, List.replicate 1 (0 : Int))] = [(kA, List.replicate 20 (0 : Int)), (kB, List.replicate 1 (0 : Int))] := by
  show wgo (kB, List.replicate 1 (0 : Int)) false [(kA, List.replicate 20 (0 : Int))] = _
  unfold wgo
  rw [if_neg (fun h => ba_lt h.2), if_neg (fun e => ba_ne e.symm)]
  rfl
 have p3 : refCommit 12 x18.used x18.L [(kB, List.replicate 1 (0 : Int))] = (4, [(kA, List.replicate 20 (0 : Int)), (kB, List.replicate 1 (0 : Int))], 0) := by
  rw [ref1 (by decide) (by decide) (by decide), t2, if_pos (by decide), sn18, if_neg (by decide), t1, aft]
 refine h18.one (by omega) (by decide) (K := fun v_60 F_1 => ((v_60 = 0 → _) ∧ (¬ v_60 = 0 → _))) ?_
 intro F20 fp20 s20 x20 h20 u1 u2 u3 u4 st20
 rw [p3] at u1 u2 ⊢
 obtain ⟨l20, n20⟩ := fresh_le st20 l18 n18
 simp only at u1 u2
 have sz20 : x20.size = 6 := by rw [u3, sz18]
 refine ⟨fun _ => ?_, fun h => absurd rfl h⟩
 refine h20.room.mono ?_
 rintro v F21 ⟨rfl, ee⟩
 obtain rfl := ee.symm
 refine ⟨_, rfl, ?_⟩
 rw [sz20, u2, show decide (roomI 6 4 = 0) = true from rfl]
 unfold b10j3
 have lA20 : lkR kA x20.L = some (List.replicate 20 (0 : Int)) := by rw [u1]; rfl
 refine (h20.get kA).mono ?_
 rintro v F22 ⟨s22, rfl, hr22, l22⟩
 rw [lA20] at hr22 ⊢
 have hs22 : s22.len = 20 := hr22.ulen
 have l022 := le_trans' l20 l22
 refine ⟨s22, true, rfl, fun _ => ⟨fun _ => ⟨fun _ => ⟨fun _ => ⟨fun _ => ⟨fun _ => ⟨fun _ => ⟨fun _ => ⟨fun _ => ⟨fun _ => ?_, fun h => (by cases h)⟩, fun h => absurd (by rw [hs22]; rfl) h⟩, fun h => (by cases h)⟩, fun h => absurd rfl h⟩, fun h => absurd rfl h⟩, fun h => (by cases h)⟩, fun h => (by cases h)⟩, fun h => absurd (by rw [hs11]; rfl) h⟩, fun h => (by cases h)⟩, fun h => (by cases h)⟩
 refine ((h20.le l22).keys).mono ?_
 rintro v F23 ⟨ks, rfl, hkl, l23⟩
 refine ⟨ks, rfl, ?_, le_trans' l022 l23⟩
 rw [hkl, u1]
 rfl
end Go.Proofs.Ytelkfnmdnbbniaa
