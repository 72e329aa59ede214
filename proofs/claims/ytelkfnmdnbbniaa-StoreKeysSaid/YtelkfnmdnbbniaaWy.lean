/-
  StoreKeys.
-/
import Derived.Test.YtelkfnmdnbbniaaWx
import Derived.Test.YtelkfnmdnbbniaaGL6
namespace Go.Proofs.Ytelkfnmdnbbniaa
open Go Go.Proofs.Try
set_option maxRecDepth 10000
def rot (r : List Rc) (a : Nat) : List Rc := r.drop (a % r.length) ++ r.take (a % r.length)
theorem rot_perm (r : List Rc) (a : Nat) : (rot r a).Perm r := by
 unfold rot
 exact List.perm_append_comm.trans (by rw [List.take_append_drop])
theorem rot_len (r : List Rc) (a : Nat) : (rot r a).length = r.length := (rot_perm r a).length_eq
theorem rot_get? {r : List Rc} {c i : Nat} (h : i < r.length) (hc : c < r.length) : (r.drop c ++ r.take c)[i]? = r[if i + c < r.length then i + c else i + c - r.length]? := by
 split
 ·rw [List.getElem?_append_left (by rw [List.length_drop]; omega), List.getElem?_drop]
  congr 1
  omega
 ·rw [List.getElem?_append_right (by rw [List.length_drop]; omega), List.length_drop, List.getElem?_take_of_lt (by omega)]
  congr 1
  omega
theorem rot_get {r : List Rc} {a i : Nat} (h : i < r.length) : ∃ h2 : (i + a) % r.length < r.length, (rot r a)[i]'(by rw [rot_len]; exact h) = r[(i + a) % r.length] := by
 have hpos : 0 < r.length := by omega
 have h2 : (i + a) % r.length < r.length := Nat.mod_lt _ hpos
 refine ⟨h2, ?_⟩
 have hc : a % r.length < r.length := Nat.mod_lt _ hpos
 have e : (i + a) % r.length = if i + a % r.length < r.length then i + a % r.length else i + a % r.length - r.length := by
  have e1 : (i + a) % r.length = (i + a % r.length) % r.length := by rw [Nat.add_mod, Nat.mod_eq_of_lt h]
  generalize a % r.length = c at *
  rw [e1]
  split
  ·exact Nat.mod_eq_of_lt (by assumption)
  ·have e3 : i + c = (i + c - r.length) + r.length := by omega
   rw [e3, Nat.add_mod_right, Nat.mod_eq_of_lt (by omega)]
   omega
 have h3 := rot_get? h hc
 rw [← e, List.getElem?_eq_getElem h2] at h3
 have h4 : (rot r a)[i]? = some r[(i + a) % r.length] := h3
 rw [List.getElem?_eq_getElem (by rw [rot_len]; exact h)] at h4
 exact Option.some.inj h4
theorem plen_perm {r t : List Rc} (h : r.Perm t) : plen r = plen t := by
 rw [plen_sum, plen_sum]
 exact (h.map _).sum_nat
theorem okT_perm {r t : List Rc} (h : r.Perm t) : OkT r ↔ OkT t := ⟨fun k x hx => k x (h.mem_iff.2 hx), fun k x hx => k x (h.mem_iff.1 hx)⟩
theorem aft_lk : ∀ {t L : List Rc} {k : ByteArray}, k ∉ t.map (·.1) → lkR k (afterR L t) = lkR k L
 | [], _, _, _ => rfl
 | r :: t, L, k, h => by
  have h1 : ¬ r.1 = k := fun e => h (by rw [List.map_cons, e]; exact List.mem_cons_self ..)
  have h2 : k ∉ t.map (·.1) := fun e => h (by rw [List.map_cons]; exact List.mem_cons_of_mem _ e)
  show lkR k (afterR (withR L r) t) = _
  rw [aft_lk h2, withR_lk, if_neg h1]
theorem aft_at : ∀ {t L : List Rc} {r : Rc}, (t.map (·.1)).Nodup → r ∈ t → lkR r.1 (afterR L t) = if r.2.length = 0 then none else some r.2
 | [], _, _, _, h => by cases h
 | y :: t, L, r, hn, h => by
  rw [List.map_cons, List.nodup_cons] at hn
  show lkR r.1 (afterR (withR L y) t) = _
  rcases List.mem_cons.1 h with rfl | h
  ·rw [aft_lk hn.1, withR_lk, if_pos rfl]
  ·exact aft_at hn.2 h
theorem aft_perm {r t L : List Rc} (h : r.Perm t) (hn : (r.map (·.1)).Nodup) (hs : Srt L) : afterR L r = afterR L t := by
 refine srt_ext (afterR_srt hs) (afterR_srt hs) fun k => ?_
 have hn2 : (t.map (·.1)).Nodup := (h.map _).nodup_iff.1 hn
 by_cases hk : k ∈ r.map (·.1)
 ·obtain ⟨x, hx, rfl⟩ := List.mem_map.1 hk
  rw [aft_at hn hx, aft_at hn2 (h.mem_iff.1 hx)]
 ·rw [aft_lk hk, aft_lk fun e => hk ((h.map _).mem_iff.2 e)]
theorem ref_perm {n u : Nat} {L r t : List Rc} (h : r.Perm t) : (refCommit n u L r).2.2 = (refCommit n u L t).2.2 ∧ ((r.map (·.1)).Nodup → Srt L → (refCommit n u L r).2.1 = (refCommit n u L t).2.1) := by
 have hp := plen_perm h
 have h0 : r = [] ↔ t = [] := ⟨fun e => by rw [e] at h; exact h.nil_eq.symm, fun e => by rw [e] at h; exact h.eq_nil⟩
 by_cases hok : OkT r
 ·have hok2 := (okT_perm h).1 hok
  by_cases he : r = []
  ·have he2 := h0.1 he
   rw [he, he2]
   exact ⟨rfl, fun _ _ => rfl⟩
  ·rw [refC_ok hok he, refC_ok hok2 (fun e => he (h0.2 e)), hp]
   refine ⟨?_, fun hn hs => ?_⟩
   ·split
    ·split <;> rfl
    ·rfl
   ·rw [aft_perm h hn hs]
 ·have hok2 : ¬ OkT t := fun e => hok ((okT_perm h).2 e)
  unfold refCommit
  rw [if_pos hok, if_pos hok2]
  exact ⟨rfl, fun _ _ => rfl⟩
theorem ref_other {n u : Nat} {L r : List Rc} {k : ByteArray} (hk : k ∉ r.map (·.1)) : lkR k (refCommit n u L r).2.1 = lkR k L := by
 unfold refCommit
 split
 ·rfl
 ·split
  ·rfl
  ·split
   ·split
    ·rfl
    ·exact aft_lk hk
   ·exact aft_lk hk
section
variable {F F0 G G' K : PH} {fp fq fp' fd : Nat → Prop} {n : Nat} {s : DS} {st cm d : Nat} {x : SS} {slm sl : Sl} {k : Nat} {M : List Nat} {ops : List OpS} {o : OpS}
abbrev both (fp fq : Nat → Prop) : Nat → Prop := fun b => fp b ∨ fq b
theorem other_le (hkeep : ∀ b, fq b → G' b = G b) (hs : Step fp (mns G fq) fp' (mns G' fq)) (hd : ∀ b, fp' b → mns G' fq b ≠ none) : (mns G fp).le (mns G' fp') := by
 intro b o hb
 have h1 := mns_le _ _ _ _ hb
 have h2 : ¬ fp b := fun e => by unfold mns at hb; rw [if_pos e] at hb; cases hb
 by_cases hq : fq b
 ·rw [mns_of, hkeep b hq]
  ·exact h1
  ·intro e
   have := hd b e
   unfold mns at this
   rw [if_pos hq] at this
   exact this rfl
 ·have h3 : mns G fq b = some o := by rw [mns_of hq]; exact h1
  have h4 := hs.keep b o h3 h2
  rw [mns_of]
  ·exact mns_le _ _ _ _ h4
  ·intro e
   rcases hs.new b e with e | e
   ·exact h2 e
   ·rw [h3] at e; cases e
theorem both_le (hs : Step fp (mns G fq) fp' (mns G' fq)) : (mns G (both fp fq)).le (mns G' (both fp' fq)) := by
 have := hs.le
 rw [mns_mns, mns_mns] at this
 rw [mns_congr (fq := both fq fp) (fun b => or_comm), mns_congr (fp := both fp' fq) (fq := both fq fp') (fun b => or_comm)]
 exact this
theorem both_swap : mns G (both fp fq) = mns G (both fq fp) := mns_congr fun _ => or_comm
theorem mns_both : mns (mns G fq) fp = mns G (both fp fq) := by rw [mns_mns]; exact both_swap
structure Two (F0 G : PH) (n : Nat) (fp : Nat → Prop) (s : DS) (st cm d : Nat) (x : SS) (slm : Sl) (fq : Nat → Prop) (s2 : DS) (st2 cm2 d2 : Nat) (x2 : SS) (slm2 : Sl) (k : Nat) : Prop where
 a : Lc F0 (mns G fq) fp n s st cm d x slm k
 b : Lc F0 (mns G fp) fq n s2 st2 cm2 d2 x2 slm2 k
variable {s2 : DS} {st2 cm2 d2 : Nat} {x2 : SS} {slm2 : Sl}
theorem Two.swap (h : Two F0 G n fp s st cm d x slm fq s2 st2 cm2 d2 x2 slm2 k) : Two F0 G n fq s2 st2 cm2 d2 x2 slm2 fp s st cm d x slm k := ⟨h.b, h.a⟩
theorem Two.domq (h : Two F0 G n fp s st cm d x slm fq s2 st2 cm2 d2 x2 slm2 k) : ∀ b, fq b → G b ≠ none := fun b hb => by
 have := h.b.st.act.dom b hb
 cases hf : mns G fp b with
 | none => exact absurd hf this
 | some o => rw [mns_le _ _ _ _ hf]; simp
theorem Lc.up2 (h : Lc F0 (mns G fq) fp n s st cm d x slm k) {G2 : PH} (l : G.le G2) : Lc F0 (mns G2 fq) fp n s st cm d x slm k := h.up (mns_mono l)
theorem Two.le (h : Two F0 G n fp s st cm d x slm fq s2 st2 cm2 d2 x2 slm2 k) {G2 : PH} (l : G.le G2) : Two F0 G2 n fp s st cm d x slm fq s2 st2 cm2 d2 x2 slm2 k := ⟨h.a.up2 l, h.b.up2 l⟩
theorem Two.run (h1 : Lc F0 (mns G fq) fp n s st cm d x slm k) (hdq : ∀ b, fq b → G b ≠ none) (ho : OpRd F0 o) (hn : n ≤ 500) (hk : k ≤ 100) :
  Spec prog 14 #[.pointer (some ⟨d, 0, none⟩), .pointer (some ⟨st, 0, none⟩), .agg (refC n x.used slm), .agg o.cells] G fun v G' => ∃ st' cm' fp' s' x' slm' e, v = .tuple #[.pointer (some ⟨st', 0, none⟩), .agg (refC n x'.used slm'), .int .i64 e, .bool true] ∧
   Lc F0 (mns G' fq) fp' n s' st' cm' d x' slm' (k + 1) ∧ (x'.used, x'.L) = refStep n x.used x.L o ∧ (mns G fp).le (mns G' fp') ∧ ∀ b, fq b → G' b = G b := by
 refine (Spec.side hdq (run_lc h1 ho hn hk)).mono ?_
 rintro v G' ⟨⟨st', cm', fp', s', x', slm', e, rfl, _, hlc, hrs, hst⟩, hkeep⟩
 exact ⟨st', cm', fp', s', x', slm', e, rfl, hlc, hrs, other_le hkeep hst hlc.st.act.dom, hkeep⟩
theorem commit2 {t : List Rc} {tl : Sl} (h1 : Sr (mns G fq) fp n s st cm d x) (hdq : ∀ b, fq b → G b ≠ none) (hnum : x.num < 1000000) (ht : Ct (mns G (both fp fq)) tl t) (htl : t.length ≤ 1000) (hb : BytR t) :
  Spec prog 25 #[.pointer (some ⟨st, 0, none⟩), tl.v] G fun v G' => ∃ fp' s' x', v = .int .i64 (refCommit n x.used x.L t).2.2 ∧ Sr (mns G' fq) fp' n s' st cm d x' ∧ x'.L = (refCommit n x.used x.L t).2.1 ∧ (mns G fp).le (mns G' fp') ∧ (mns G (both fp fq)).le (mns G' (both fp' fq)) ∧ (∀ b, fq b → G' b ≠ none) ∧ (∀ b, fp' b → G' b ≠ none) := by
 rw [← mns_both] at ht
 refine (Spec.side hdq (h1.commit hnum ht htl hb)).mono ?_
 rintro v G' ⟨⟨fp', s', x', rfl, h', e1, e2, e3, e4, hst⟩, hkeep⟩
 refine ⟨fp', s', x', rfl, h', e1, other_le hkeep hst h'.dom, both_le hst, fun b hb => by rw [hkeep b hb]; exact hdq b hb, fun b hb => ?_⟩
 have := h'.dom b hb
 cases hf : mns G' fq b with
 | none => exact absurd hf this
 | some o => rw [mns_le _ _ _ _ hf]; simp
theorem law6_j3 {r : List Rc} {rl ol : Sl} {L : List Rc} (h : Sr G fp n s st cm d x) (hr : Ct G rl r) (hL : Ct G ol L) (hrl : r.length ≤ 4) (hLl : L.length ≤ 100000) (hLb : BytR L) (hs : Srt L) (hlk : ∀ k, k ∉ r.map (·.1) → lkR k x.L = lkR k L) (hl : F.le G) :
  b6j3 true (some ⟨st, 0, none⟩) rl ol (fun v F' => v = .bool true ∧ F.le F') G := by
 have hol := hL.len
 unfold b6j3
 refine ⟨fun q i F' => ∃ k : Nat, i = k ∧ k ≤ L.length ∧ q = L.length - k ∧ G.le F', L.length, ⟨0, rfl, by omega, rfl, le_refl' _⟩, ?_⟩
 rintro _ _ F2 ⟨j, rfl, hj, rfl, l2⟩
 unfold b6L1
 refine ⟨fun hlt => ?_, fun hge => ?_⟩
 ·have hj' : j < L.length := by omega
  obtain ⟨a, sv, h1, h2, h3, _, h5, _⟩ := (hL.le l2).at hj'
  refine ⟨a, h1, by omega, by omega, _, h2, ?_⟩
  refine ((h.le l2).get L[j].1).mono ?_
  rintro v F3 ⟨s3, rfl, hr3, l3⟩
  refine ⟨s3, _, rfl, a, h1, by omega, by omega, _, le_cell l3 h2, ?_⟩
  refine (names_spec (hr.le (le_trans' l2 l3)) L[j].1 (by omega)).mono ?_
  rintro v F4 ⟨b, rfl, hb, ee⟩
  obtain rfl := ee.symm
  have next : b6j5 (fun y1_0 F_1 => ∃ m', m' < L.length - j ∧ ∃ k : Nat, y1_0 = k ∧ k ≤ L.length ∧ m' = L.length - k ∧ G.le F_1) true (some ⟨st, 0, none⟩) rl ol (j : Int) (fun v F' => v = .bool true ∧ F.le F') F3 := by
   unfold b6j5
   exact ⟨L.length - (j + 1), by omega, j + 1, w64s (by omega), by omega, rfl, le_trans' l2 l3⟩
  refine ⟨b, rfl, fun hb0 => ?_, fun _ => next⟩
  have hnk : L[j].1 ∉ r.map (·.1) := fun e => by rw [hb.2 e] at hb0; cases hb0
  have hval : lkR L[j].1 x.L = some L[j].2 := by
   rw [hlk _ hnk]
   exact lkR_at hs (List.getElem_mem hj')
  rw [hval] at hr3 ⊢
  have hbj := hLb _ (List.getElem_mem hj')
  refine ⟨fun hh => (by cases hh), fun _ => ⟨_, mkB_rdo hr3 hbj, a, h1, by omega, by omega, sv, le_cell l3 h3, _, mkB_rdo (h5.le l3) hbj, fun hh => ?_, fun _ => next⟩⟩
  rw [beq_kb] at hh
  simp at hh
 ·unfold b6j4
  exact ⟨rfl, le_trans' hl l2⟩
theorem law6_j2 {r t : List Rc} {rl ol tl : Sl} (h1 : Sr (mns G fq) fp n s st cm d x) (h2 : Sr (mns G fp) fq n s2 st2 cm2 d2 x2) (hdq : ∀ b, fq b → G b ≠ none) (hdp : ∀ b, fp b → G b ≠ none) (hnum : x.num < 1000000) (hnum2 : x2.num < 1000000) (hr : Ct (mns G (both fp fq)) rl r) (ht : Ct (mns G (both fp fq)) tl t) (hL : Ct (mns G (both fp fq)) ol x.L)
  (hp : r.Perm t) (hrl : r.length ≤ 4) (hrb : BytR r) (hu : x2.used = x.used) (hxL : x2.L = x.L) (hl : F.le (mns G (both fp fq))) :
  b6j2 true (some ⟨st, 0, none⟩) (some ⟨st2, 0, none⟩) rl ol tl (fun v F' => v = .bool true ∧ F.le F') G := by
 have hsm := h1.small.len
 have hpl := plen_le x.L
 have hsrt := h1.sto.srt
 have htb : BytR t := fun y hy => hrb y (hp.mem_iff.2 hy)
 have htl : t.length ≤ 4 := by rw [← hp.length_eq]; exact hrl
 have hb0 := h1.byt
 obtain ⟨pe, pc⟩ := ref_perm (n := n) (u := x.used) (L := x.L) hp
 unfold b6j2
 refine (commit2 h1 hdq hnum hr (by omega) hrb).mono ?_
 rintro v F2 ⟨fp2, s3, x3, rfl, h3, e3, lq, lb, hdq2, hdp2⟩
 have h2' := h2.le lq
 refine ⟨_, rfl, ?_⟩
 refine (commit2 (tl := tl) (t := t) h2' hdp2 hnum2 (by rw [both_swap]; exact ht.le lb) (by omega) htb).mono ?_
 rintro v F3 ⟨fq2, s4, x4, rfl, h4, e4, lp3, lb3, hd3, hd4⟩
 have h5 := h3.le lp3
 rw [hu, hxL] at e4 ⊢
 rw [both_swap, both_swap (fp := fq2)] at lb3
 have lb5 := le_trans' lb lb3
 have hr5 := (hr.le lb5).le (mns_le _ _)
 have hL5 := (hL.le lb5).le (mns_le _ _)
 have hs5 : Sr F3 fp2 n s3 st cm d x3 := h5.le (mns_le _ _)
 have hs6 : Sr F3 fq2 n s4 st2 cm2 d2 x4 := h4.le (mns_le _ _)
 have hl5 := le_trans' hl (le_trans' lb5 (mns_le _ _))
 have other : ∀ k, k ∉ r.map (·.1) → lkR k x3.L = lkR k x.L := fun k hk => by rw [e3]; exact ref_other hk
 have fin : ∀ {F4 : PH}, F3.le F4 → b6j3 true (some ⟨st, 0, none⟩) rl ol (fun v F' => v = .bool true ∧ F.le F') F4 := fun l4 => law6_j3 (hs5.le l4) (hr5.le l4) (hL5.le l4) hrl (by omega) hb0 hsrt other (le_trans' hl5 l4)
 refine ⟨_, rfl, fun hne => absurd pe hne, fun _ => ⟨fun h0 => ?_, fun _ => fin (le_refl' _)⟩⟩
 refine (twice_spec hr5 (by omega)).mono ?_
 rintro v F4 ⟨b, rfl, hb, ee⟩
 obtain rfl := ee.symm
 refine ⟨b, rfl, fun hb1 => ?_, fun _ => fin (le_refl' _)⟩
 have hnd := hb.1 (by simpa using hb1)
 have heq : x3.L = x4.L := by rw [e3, e4]; exact pc hnd hsrt
 refine hs5.contents.mono ?_
 rintro v F5 ⟨sa, rfl, ha, l5⟩
 refine ⟨sa, rfl, ?_⟩
 refine ((hs6.le l5).contents).mono ?_
 rintro v F6 ⟨sb, rfl, hsb, l6⟩
 have hl3 := hs5.small.len
 have hpl3 := plen_le x3.L
 refine ⟨sb, rfl, ?_⟩
 refine (Same_spec ((ha.le (mns_le _ _)).le l6) (hsb.le (mns_le _ _)) hs5.byt hs6.byt (by omega)).mono ?_
 rintro v F7 ⟨c, rfl, hc, ee⟩
 obtain rfl := ee.symm
 obtain rfl : c = true := hc.2 heq
 exact ⟨true, rfl, fun hh => (by cases hh), fun _ => fin (le_trans' l5 l6)⟩
theorem law6_j1 {at_ : Int} (hat : 0 ≤ at_ ∧ at_ ≤ 255) {b4 : Nat} (hb4 : (mns G (both fp fq)) b4 = some (.cells o.cells 38 (0, 0))) (ho : OpRd (mns G (both fp fq)) o) (h1 : Sr (mns G fq) fp n s st cm d x) (h2 : Sr (mns G fp) fq n s2 st2 cm2 d2 x2) (hdq : ∀ b, fq b → G b ≠ none) (hdp : ∀ b, fp b → G b ≠ none) (hnum : x.num < 1000000) (hnum2 : x2.num < 1000000)
  (hu : x2.used = x.used) (hxL : x2.L = x.L) (hl : F.le (mns G (both fp fq))) :
  b6j1 at_ b4 true (some ⟨st, 0, none⟩) (some ⟨st2, 0, none⟩) (fun v F' => v = .bool true ∧ F.le F') G := by
 have hsm := h1.small.len
 have hpl := plen_le x.L
 have hrb := recsOf_byt ho
 have hrl := recsOf_len o
 have hdb : ∀ b, both fp fq b → G b ≠ none := fun b hb => hb.elim (hdp b) (hdq b)
 unfold b6j1
 refine ⟨_, rfl, row_whole (mns_le _ _ _ _ hb4), ?_⟩
 refine (side_le (R := fun v G => ∃ sl, v = Sl.v sl ∧ Ct G sl (recsOf o)) hdb ((Records_spec (a := o.cells) rfl ho).mono fun _ _ ⟨sl, h1, h2, h3⟩ => ⟨⟨sl, h1, h2⟩, h3⟩)).mono ?_
 rintro v F4 ⟨⟨rl, rfl, hr⟩, l4, m4⟩
 have hrlen := hr.len
 refine ⟨rl, rfl, ?_⟩
 refine (Valid_spec (hr.le (mns_le _ _)) (by omega)).mono ?_
 rintro v F4' ⟨b, rfl, hbv, ee⟩
 obtain rfl := ee.symm
 have hl4 := le_trans' hl m4
 refine ⟨b, rfl, fun _ => ⟨rfl, le_trans' hl4 (mns_le _ _)⟩, fun _ => ?_⟩
 have hdb4 : ∀ b, both fp fq b → F4 b ≠ none := fun b hb => old_mono l4 b (hdb b hb)
 have hs4 : Sr F4 fp n s st cm d x := (h1.le (mns_mono l4)).le (mns_le _ _)
 refine hs4.contents.mono ?_
 rintro v F5 ⟨ol, rfl, hol, l5⟩
 have hol := hol.le (mns_anti (F := F5) hdb4)
 have hr5 := hr.le (mns_mono (fp := both fp fq) l5)
 have l45 := le_trans' l4 l5
 have hdb5 : ∀ b, both fp fq b → F5 b ≠ none := fun b hb => old_mono l45 b (hdb b hb)
 have hl5 := le_trans' hl4 (mns_mono (fp := both fp fq) l5)
 refine ⟨ol, rfl, ?_⟩
 intro b89 h89
 refine atI ?_
 refine ⟨fun q tl i F' => ∃ (k : Nat) (G : PH) (A : List Rt), i = k ∧ k ≤ (recsOf o).length ∧ q = (recsOf o).length - k ∧ F5.le G ∧ Ov 41 2 G F' tl (rtc A) ∧ rcs A = (rot (recsOf o) at_.toNat).take k ∧ ∀ y ∈ A, RdS (mns F5 (both fp fq)) y.2.1 1 (u8s y.2.2), (recsOf o).length,
  ⟨0, F5, [], rfl, by omega, rfl, le_refl' _, ⟨le_set_fresh _ h89, .inr ⟨b89, #[], rfl, set_eq _ _ _, rfl, Nat.le_refl _, rfl, rfl⟩, fun a ha => by cases ha; exact h89⟩, rfl, by simp⟩, ?_⟩
 rintro _ tl _ F6 ⟨k, G6, A, rfl, hk, rfl, lG, hO, hA, hAv⟩
 have hAl : A.length = k := by
  have := congrArg List.length hA
  rw [rcs_len, List.length_take, rot_len] at this
  omega
 have lF6 := le_trans' lG hO.le
 unfold b6L2
 refine ⟨fun hlt => ?_, fun hge => ?_⟩
 ·have hk' : k < (recsOf o).length := by omega
  obtain ⟨T, hT, hRT⟩ := hr5
  have hTl : T.length = (recsOf o).length := by rw [← hT, rcs_len]
  obtain ⟨hq, hrot⟩ := rot_get (r := recsOf o) (a := at_.toNat) hk'
  have hqT : (k + at_.toNat) % (recsOf o).length < T.length := by omega
  have hx := List.getElem?_eq_getElem hqT
  have eidx : Int.tmod (IntKind.i64.wrap ((k : Int) + IntKind.i64.wrap at_)) (rl.len : Int) = (((k + at_.toNat) % (recsOf o).length : Nat) : Int) := by
   rw [w64_eq (x := at_) (by omega) (by omega), w64_eq (by omega) (by omega), Int.tmod_eq_emod_of_nonneg (by omega), hrlen, Int.natCast_emod]
   congr 1
   omega
  obtain ⟨a, ha, _, _, hrow⟩ := ((hRT.le (mns_le _ _)).le lF6).at hx
  rw [eidx]
  refine ⟨by omega, a, ha, by omega, by omega, _, rfl, hrow, rfl, ?_⟩
  intro b107 h107
  refine atI ?_
  have hO1 := hO.newg h107 (.cells #[.string T[(k + at_.toNat) % (recsOf o).length].1, T[(k + at_.toNat) % (recsOf o).length].2.1.v] 41)
  have lG1 := hO.gle h107 (.cells #[.string T[(k + at_.toNat) % (recsOf o).length].1, T[(k + at_.toNat) % (recsOf o).length].2.1.v] 41)
  have q107 := set_eq F6 b107 (.cells #[.string T[(k + at_.toNat) % (recsOf o).length].1, T[(k + at_.toNat) % (recsOf o).length].2.1.v] 41)
  have holn := hO1.len
  rw [rtc_length] at holn
  refine hO1.app (x := ⟨some ⟨b107, 0, none⟩, 1, 1⟩) (news := [.string T[(k + at_.toNat) % (recsOf o).length].1, T[(k + at_.toNat) % (recsOf o).length].2.1.v]) underlying26 sz41 zr41 rfl (by decide) (RdS.new q107 rfl rfl (Nat.le_refl _)) st_pair (by simp only; omega) (by simp only; omega) ?_
  intro s7 F7 hO7
  refine ⟨(recsOf o).length - (k + 1), by omega, k + 1, _, A ++ [T[(k + at_.toNat) % (recsOf o).length]], w64s (by omega), by omega, rfl, le_trans' lG lG1, by rw [rtc_snoc]; exact hO7, ?_, fun y hy => ?_⟩
  ·have hkr : k < (rot (recsOf o) at_.toNat).length := by rw [rot_len]; exact hk'
   rw [rcs_snoc, hA, take_next' hkr, hrot]
   congr 2
   have : (recsOf o)[(k + at_.toNat) % (recsOf o).length] = (rcs T)[(k + at_.toNat) % (recsOf o).length]'(by rw [rcs_len]; exact hqT) := by
    congr 1
    exact hT.symm
   rw [this]
   simp [rcs]
  ·rcases List.mem_append.1 hy with hy | hy
   ·exact hAv y hy
   ·rw [List.mem_singleton.1 hy]
    exact hRT.vals _ (List.getElem_mem hqT)
 ·obtain rfl : k = (recsOf o).length := by omega
  rw [List.take_of_length_le (by rw [rot_len]; exact Nat.le_refl _)] at hA
  have hown : OwnS (mns F6 (both fp fq)) 41 2 tl (rtc A) := hO.own.keep fun a ha => mns_of fun hb => hdb5 _ hb (le_none lG (hO.oz a ha))
  have ht : Ct (mns F6 (both fp fq)) tl (rot (recsOf o) at_.toNat) := ⟨A, hA, hown.rd, fun y hy => (hAv y hy).le (mns_mono lF6)⟩
  have l46 := le_trans' l45 lF6
  exact law6_j2 (h1.le (mns_mono l46)) (h2.le (mns_mono l46)) (fun b hb => old_mono l46 b (hdq b hb)) (fun b hb => old_mono l46 b (hdp b hb)) hnum hnum2 (hr5.le (mns_mono lF6)) ht (hol.le (mns_mono lF6)) (rot_perm _ _).symm hrl hrb hu hxL (le_trans' hl5 (mns_mono lF6))
theorem law6_spec {a : Array Value} {at_ : Int} (hat : 0 ≤ at_ ∧ at_ ≤ 255) (hops : OpsRd F sl ops) (ha : a = o.cells) (ho : OpRd F o) : Spec prog 6 #[sl.v, .agg a, .int .u8 at_] F fun v F' => v = .bool true ∧ F.le F' := by
 subst ha
 have hlen := hops.len
 have hl9 := hops.len9
 refine c6 ?_
 unfold b6
 intro b4 h4
 refine atI ?_
 have l4 := le_set_fresh (.cells o.cells 38) h4
 have q4 := set_eq F b4 (.cells o.cells 38)
 generalize F.set b4 (.cells o.cells 38) = F4 at *
 refine (sanity_spec F4).mono ?_
 rintro v F1 ⟨rfl, l1⟩
 refine ⟨true, rfl, ?_⟩
 refine (fresh_spec (F := F1) (n := 80) (by decide) (by decide)).mono ?_
 rintro v F2 ⟨d, st, cm, fp, s, rfl, hst, hz, hkp, l2, hnew⟩
 refine ⟨_, _, _, true, rfl, ?_⟩
 intro b10 h10
 refine atI ?_
 have hs := (Sd.start F2).var h10 (c := #[.int .i64 0, .int .i64 0, .slice none 0 0]) rfl
 refine hs.store (List.mem_singleton_self _) rfl st_refC ?_
 intro hs3
 have q10 := set_eq (F2.set b10 (.cells #[.int .i64 0, .int .i64 0, .slice none 0 0] 28)) b10 (.cells (refC 80 0 Sl.nil) 28)
 generalize (F2.set b10 (.cells #[.int .i64 0, .int .i64 0, .slice none 0 0] 28)).set b10 (.cells (refC 80 0 Sl.nil) 28) = F3 at *
 have hdp : ∀ b, fp b → F2 b ≠ none := hst.act.dom
 refine (hs3.call (side_le (R := fun v G => ∃ d st cm fq s, v = .tuple #[.pointer (some ⟨d, 0, none⟩), .pointer (some ⟨st, 0, none⟩), .agg (refC 80 0 Sl.nil), .bool true] ∧ St G fq 80 s st cm d (empt 80) Sl.nil ∧ s.fuse = 0 ∧ s.kept = [] ∧ ∀ b, fq b → mns F2 fp b = none) hdp
  ((fresh_spec (F := mns F2 fp) (n := 80) (by decide) (by decide)).mono fun _ _ ⟨d, st, cm, fq, s, e1, e2, e3, e4, e5, e6⟩ => ⟨⟨d, st, cm, fq, s, e1, e2, e3, e4, e6⟩, e5⟩))).mono ?_
 rintro v F5 ⟨G5, ⟨⟨d2, st2, cm2, fq, s2, rfl, hst2, hz2, hkp2, hnew2'⟩, l5, m5⟩, hs5, k5⟩
 have hqn : ∀ b, fq b → ¬ fp b := fun b hb e => by
  have := hst2.act.dom b hb
  unfold mns at this
  rw [if_pos e] at this
  exact this rfl
 have hnew2 : ∀ b, fq b → F2 b = none := fun b hb => by
  have := hnew2' b hb
  rw [mns_of (hqn b hb)] at this
  exact this
 refine ⟨_, _, _, true, rfl, ?_⟩
 have q10 := k5 _ _ (hs3.z b10 (List.mem_singleton_self _)).1 q10
 intro b14 h14
 refine atI ?_
 have n1014 : b10 ≠ b14 := fun e => by rw [← e, q10] at h14; cases h14
 have hs6 := hs5.var h14 (c := #[.int .i64 0, .int .i64 0, .slice none 0 0]) rfl
 refine hs6.store (List.mem_cons_self ..) rfl st_refC ?_
 intro hs7
 have q14 := set_eq (F5.set b14 (.cells #[.int .i64 0, .int .i64 0, .slice none 0 0] 28)) b14 (.cells (refC 80 0 Sl.nil) 28)
 have q10 : ((F5.set b14 (.cells #[.int .i64 0, .int .i64 0, .slice none 0 0] 28)).set b14 (.cells (refC 80 0 Sl.nil) 28)) b10 = some (.cells (refC 80 0 Sl.nil) 28 (0, 0)) := by rw [set_ne _ _ n1014, set_ne _ _ n1014]; exact q10
 generalize (F5.set b14 (.cells #[.int .i64 0, .int .i64 0, .slice none 0 0] 28)).set b14 (.cells (refC 80 0 Sl.nil) 28) = F7 at *
 have hm10 : b10 ∈ [b14, b10] := List.mem_cons_of_mem _ (List.mem_singleton_self _)
 have hm14 : b14 ∈ [b14, b10] := List.mem_cons_self ..
 have l01 := le_trans' l4 l1
 -- the second store lies beside the first one
 have lpq : F2.le (mns G5 fq) := le_mns_new l5 hnew2
 have hA : Lc F4 (mns G5 fq) fp 80 s st cm d (empt 80) Sl.nil 0 := ⟨hst.le lpq, hz, hkp, Int.le_refl _, by rw [mns_both]; exact le_mns_new (le_trans' l1 (le_trans' l2 l5)) fun b hb => hb.elim (fun e => le_none l1 (hnew b e)) (fun e => le_none (le_trans' l1 l2) (hnew2 b e))⟩
 have hB : Lc F4 (mns G5 fp) fq 80 s2 st2 cm2 d2 (empt 80) Sl.nil 0 := ⟨hst2, hz2, hkp2, Int.le_refl _, by rw [mns_both]; exact le_mns_new (le_trans' l1 (le_trans' l2 l5)) fun b hb => hb.elim (fun e => le_none (le_trans' l1 l2) (hnew2 b e)) (fun e => le_none l1 (hnew b e))⟩
 refine ⟨fun h => (by cases h), fun _ => ⟨fun h => (by cases h), fun _ => ?_⟩⟩
 refine ⟨fun q sp tp i F' => ∃ (k : Nat) (G : PH) (fp : Nat → Prop) (s : DS) (st cm : Nat) (x : SS) (slm : Sl) (fq : Nat → Prop) (s2 : DS) (st2 cm2 : Nat) (x2 : SS) (slm2 : Sl), i = k ∧ k ≤ 8 ∧ q = 8 - k ∧ sp = some ⟨st, 0, none⟩ ∧ tp = some ⟨st2, 0, none⟩ ∧ Sd G F' [b14, b10] ∧ F' b10 = some (.cells (refC 80 x.used slm) 28 (0, 0)) ∧ F' b14 = some (.cells (refC 80 x2.used slm2) 28 (0, 0)) ∧
   Two F4 G 80 fp s st cm d x slm fq s2 st2 cm2 d2 x2 slm2 k ∧ x2.used = x.used ∧ x2.L = x.L, 8,
  ⟨0, G5, fp, s, st, cm, empt 80, Sl.nil, fq, s2, st2, cm2, empt 80, Sl.nil, rfl, by omega, rfl, rfl, rfl, hs7, q10, q14, ⟨hA, hB⟩, rfl, rfl⟩, ?_⟩
 rintro _ _ _ _ F8 ⟨k, G, fp, s, st, cm, x, slm, fq, s2, st2, cm2, x2, slm2, rfl, hk, rfl, rfl, rfl, hsd, hb10, hb14, htwo, hu, hxL⟩
 have hle8 : F4.le (mns G (both fp fq)) := by rw [← mns_both]; exact htwo.a.le
 have lF8 := le_trans' hle8 (le_trans' (mns_le _ _) hsd.le)
 unfold b6L3
 have fin : b6j1 at_ b4 true (some ⟨st, 0, none⟩) (some ⟨st2, 0, none⟩) (fun v F' => v = .bool true ∧ F.le F') F8 := by
  have h8 := htwo.le hsd.le
  have hle : F4.le (mns F8 (both fp fq)) := by rw [← mns_both]; exact h8.a.le
  have hn1 := htwo.a.num
  have hn2 := htwo.b.num
  exact law6_j1 hat (hle _ _ q4) ((ho.le l4).le hle) (h8.a.sr (by decide) (by omega)) (h8.b.sr (by decide) (by omega)) h8.domq h8.swap.domq (by omega) (by omega) hu hxL (le_trans' l4 hle)
 refine ⟨fun hlt => ⟨fun h8 => ?_, fun _ => fin⟩, fun _ => fin⟩
 have hkl : k < ops.length := by omega
 have ho4 := hops.le l4
 have hok := ho4.ok _ (List.getElem_mem hkl)
 obtain ⟨a, ha, hrow⟩ := (ho4.le lF8).at hkl
 refine ⟨_, rfl, row_whole hb10, a, ha, by omega, by omega, _, rfl, hrow, ?_⟩
 refine (hsd.call (Two.run htwo.a htwo.domq hok (by decide) (by omega))).mono ?_
 rintro v F9 ⟨G9, ⟨st', cm', fp', s', x', slm', e, rfl, hlc', hrs, hle9, hkeep⟩, hsd9, k9⟩
 have hb14' := k9 _ _ (hsd.z b14 hm14).1 hb14
 have hB9 := htwo.b
 have hB9 : Lc F4 (mns G9 fp') fq 80 s2 st2 cm2 d2 x2 slm2 k := htwo.b.up hle9
 refine ⟨_, _, _, true, rfl, ?_⟩
 refine hsd9.store hm10 rfl st_refC ?_
 intro hsd10
 have hb14'' : (F9.set b10 (.cells (refC 80 x'.used slm') 28)) b14 = some (.cells (refC 80 x2.used slm2) 28 (0, 0)) := by rw [set_ne _ _ n1014.symm]; exact hb14'
 have hb10'' := set_eq F9 b10 (.cells (refC 80 x'.used slm') 28)
 generalize F9.set b10 (.cells (refC 80 x'.used slm') 28) = F10 at *
 have hle10 : F4.le (mns G9 (both fp' fq)) := by rw [← mns_both]; exact hlc'.le
 obtain ⟨a', ha', hrow'⟩ := (ho4.le (le_trans' hle10 (le_trans' (mns_le _ _) hsd10.le))).at hkl
 refine ⟨_, rfl, row_whole hb14'', a', ha', by omega, by omega, _, rfl, hrow', ?_⟩
 have hdp' : ∀ b, fp' b → G9 b ≠ none := fun b hb => by
  have := hlc'.st.act.dom b hb
  cases hf : mns G9 fq b with
  | none => exact absurd hf this
  | some o => rw [mns_le _ _ _ _ hf]; simp
 refine (hsd10.call (Two.run hB9 hdp' hok (by decide) (by omega))).mono ?_
 rintro v F11 ⟨G11, ⟨st3, cm3, fq', s3, x3, slm3, e3, rfl, hlc3, hrs3, hle11, hkeep3⟩, hsd11, k11⟩
 have hb10a := k11 _ _ (hsd10.z b10 hm10).1 hb10''
 refine ⟨_, _, _, true, rfl, ?_⟩
 refine hsd11.store hm14 rfl st_refC ?_
 intro hsd12
 rw [hu, hxL] at hrs3
 have hpair : (x3.used, x3.L) = (x'.used, x'.L) := hrs3.trans hrs.symm
 injection hpair with hp1 hp2
 exact ⟨8 - (k + 1), by omega, k + 1, G11, fp', s', st', cm', x', slm', fq', s3, st3, cm3, x3, slm3, w64s (by omega), by omega, rfl, rfl, rfl, hsd12, by rw [set_ne _ _ n1014]; exact hb10a, set_eq _ _ _, ⟨hlc'.up hle11, hlc3⟩, hp1, hp2⟩
end
end Go.Proofs.Ytelkfnmdnbbniaa
