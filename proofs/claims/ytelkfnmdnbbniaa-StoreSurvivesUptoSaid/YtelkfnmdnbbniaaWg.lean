/-
  The store's code: the next transaction of the log is read.
-/
import Derived.Test.YtelkfnmdnbbniaaWa
import Derived.Test.YtelkfnmdnbbniaaGe
import Derived.Test.YtelkfnmdnbbniaaVd
import Derived.Test.YtelkfnmdnbbniaaGt
import Derived.Test.YtelkfnmdnbbniaaGd
namespace Go.Proofs.Ytelkfnmdnbbniaa
open Go Go.Proofs.Try
set_option maxRecDepth 10000
theorem mns_set {F : PH} {fs : Nat → Prop} {b : Nat} {o : Obj} (h : ¬ fs b) : mns (F.set b o) fs = (mns F fs).set b o := by
 funext x
 by_cases e : x = b
 ·subst e
  rw [mns_of h, set_eq, set_eq]
 ·by_cases e2 : fs x
  ·rw [set_ne _ _ e]; simp [mns, e2]
  ·rw [mns_of e2, set_ne _ _ e, set_ne _ _ e, mns_of e2]
theorem DRep.K_le {F K : PH} {d n : Nat} {fp : Nat → Prop} {s : DS} (h : DRep F K d fp n s) : K.le (mns F fp) := by obtain ⟨_, _, _, _, _, h⟩ := h; exact h.hK
theorem DRep.setne {F K : PH} {d n : Nat} {fp : Nat → Prop} {s : DS} (h : DRep F K d fp n s) {b : Nat} {o : Obj} (hb : ¬ fp b) (hK : K b = none) : DRep (F.set b o) K d fp n s :=
 h.keep (fun x hx => set_ne _ _ (fun e => hb (e ▸ hx))) fun x p hx => by
  rw [mns_set hb, set_ne _ _ (fun e => by rw [e, hK] at hx; cases hx)]
  exact h.K_le _ _ hx
theorem Step.set {G F : PH} {fp fq : Nat → Prop} (h : Step fp G fq F) {b : Nat} {o : Obj} (hb : G b = none) : Step fp G fq (F.set b o) :=
 ⟨fun x p hx hn => by rw [set_ne _ _ (fun e => by rw [e, hb] at hx; cases hx)]; exact h.keep x p hx hn, h.new⟩
theorem setM_ok {m : Int} {l : List (List Int)} (h : ∀ b ∈ l, b.length = 64) : ∀ b ∈ setM m l, b.length = 64 := by
 cases l with
 | nil => exact h
 | cons x r =>
  intro b hb
  rcases List.mem_cons.1 hb with rfl | hb
  ·rw [List.length_set]; exact h x (by simp)
  ·exact h b (by simp [hb])
theorem setM_setM (m m' : Int) (l : List (List Int)) : setM m (setM m' l) = setM m l := by
 cases l with
 | nil => rfl
 | cons x r => simp [setM]
theorem setM_ne {m : Int} {l : List (List Int)} (h : l ≠ []) : setM m l ≠ [] := by
 cases l with
 | nil => exact h
 | cons x r => simp [setM]
theorem putW_ws {n : Nat} : ∀ (l : List (List Int)) (s : DS) (a : Int), (putW s n a l).1.ws.length ≤ s.ws.length + l.length
 | [], s, a => by rw [putW]; have := s.flush_ws; simpa using this
 | x :: r, s, a => by
  have h1 := s.write_ws n a x
  have h2 := putW_ws (n := n) r (s.write n a x).1 (a + 1)
  rw [putW, List.length_cons]
  split <;> omega
theorem own_setM {F : PH} {sl : Sl} {l : List (List Int)} (h : OwnS F 104 64 sl (flatB l)) (hl : l ≠ []) (hb : ∀ b ∈ l, b.length = 64) (m : Int) :
  ∃ bl cur, sl.base = some ⟨bl, 0, none⟩ ∧ F bl = some (.cells cur 104 (0, 0)) ∧ 0 < cur.size ∧ OwnS (F.set bl (.cells (cur.setIfInBounds 0 (.int .u8 m)) 104)) 104 64 sl (flatB (setM m l)) := by
 have hfl := flatB_len hb
 have hpos : 0 < l.length := List.length_pos_iff.2 hl
 rcases h with ⟨_, h⟩ | ⟨bl, cur, h1, h2, h3, h4, h5, h6⟩
 ·rw [h] at hfl
  simp at hfl
  exact absurd hfl.symm (by omega)
 ·have hsz : 0 < cur.size := by
   have : sl.len * 64 ≤ sl.cap * 64 := Nat.mul_le_mul_right _ h4
   omega
  refine ⟨bl, cur, h1, h2, hsz, .inr ⟨bl, _, h1, set_eq _ _ _, by rw [Array.size_setIfInBounds, h3], h4, by rw [flatB_len (setM_ok hb), setM_len, ← hfl, h5], ?_⟩⟩
  rw [Array.toList_setIfInBounds]
  cases l with
  | nil => exact absurd rfl hl
  | cons x r =>
   have hx := hb x (by simp)
   cases x with
   | nil => simp at hx
   | cons a x =>
    rw [List.take_set, h6]
    simp [flatB, setM]
section
variable {G F K : PH} {d n st cm : Nat} {fd : Nat → Prop} {s : DS} {x : SS}
theorem complete_spec {sl : Sl} {l : List (List Int)} (h : DRep (mns G (fs2 st cm)) K d fd n s) (hst : G st = some (.cells (scells d cm x) 84 (0, 0))) (hcm : G cm ≠ none) (hO : Ov 104 64 G F sl (flatB l)) (hl : l ≠ []) (hb : ∀ b ∈ l, b.length = 64)
  {at_ : Int} (h0 : 0 ≤ at_) (h1 : at_ ≤ 1000000) (h1000 : s.ws.length + l.length < 1000) :
  Spec prog 54 #[.pointer (some ⟨st, 0, none⟩), .int .i64 at_, sl.v] F fun v F' => v = .int .i64 (completeW s n at_ l).2 ∧ ∃ fd', DRep (mns F' (fs2 st cm)) K d fd' n (completeW s n at_ l).1 ∧ Step fd G fd' F' ∧ F' st = G st ∧ F' cm = G cm := by
 obtain ⟨bl, cur, e1, e2, e3, hO1⟩ := own_setM hO.own hl hb 0
 have hbl : G bl = none := hO.oz _ e1
 have hdom : ∀ b, fd b → G b ≠ none := fun b hb hn => h.dom b hb (by unfold mns; split; rfl; exact hn)
 have hbd : ¬ fd bl := fun e => hdom bl e hbl
 have hbs : ¬ fs2 st cm bl := by
  rintro (rfl | rfl)
  ·rw [hst] at hbl; cases hbl
  ·exact hcm hbl
 have hKb : K bl = none := by
  cases hk : K bl with
  | none => rfl
  | some o =>
   have := mns_le _ _ _ _ (mns_le _ _ _ _ (h.K_le _ _ hk))
   rw [hbl] at this
   cases this
 have hlen : sl.len = l.length := by have := hO.len; rw [flatB_len hb] at this; omega
 have hpos : 0 < l.length := List.length_pos_iff.2 hl
 refine c54 ?_
 unfold b54
 refine ⟨_, e1, by omega, by omega, by omega, by omega, ?_⟩
 refine st1' (b := bl) (o := 0) (by simp) e2 e3 ?_
 have l1 : G.le (F.set bl (.cells (cur.setIfInBounds 0 (.int .u8 0)) 104)) := le_set_new hO.le hbl
 have q1 := set_eq F bl (.cells (cur.setIfInBounds 0 (.int .u8 0)) 104)
 generalize F.set bl (.cells (cur.setIfInBounds 0 (.int .u8 0)) 104) = F1 at *
 have hst1 := l1 _ _ hst
 refine ⟨_, rfl, _, (cell_eq hst1).trans rfl, ?_⟩
 have hfs1 : ∀ b, fs2 st cm b → F1 b ≠ none ∧ F1 b = G b := by
  rintro b (rfl | rfl)
  ·rw [hst1, hst]; simp
  ·cases hc : G b with
   | none => exact absurd hc hcm
   | some o => rw [l1 _ _ hc]; simp
 have hrep1 := h.le (mns_mono (fp := fs2 st cm) l1)
 have hrd : ∀ {F' : PH} {fe : Nat → Prop} {vs : List Value} {sl' : Sl}, OwnS F' 104 64 sl' vs → sl'.base = some ⟨bl, 0, none⟩ → ¬ fe bl → OwnS (mns (mns F' (fs2 st cm)) fe) 104 64 sl' vs := fun ho hbase hfe => ho.keep fun a ha => by
  rw [hbase] at ha
  cases ha
  rw [mns_of hfe, mns_of hbs]
 refine (Spec.side (fun b hb => (hfs1 b hb).1) (put_spec hrep1 (hrd hO1 e1 hbd).rd (setM_ok hb) (by rw [setM_len]; omega) h0 h1)).mono ?_
 rintro v F2 ⟨⟨rfl, fd2, hrep2, hs2⟩, hf2⟩
 have hS1 : Step fd F1 fd2 F2 := hs2.side hf2 hrep2.dom
 have hS2 : Step fd G fd2 F2 := (Step.of_le l1).trans hS1
 refine ⟨_, rfl, fun hne => ?_, fun heq => ?_⟩
 ·have e : completeW s n at_ l = putW s n at_ (setM 0 l) := by unfold completeW; rw [if_pos hne]
  rw [e]
  exact ⟨rfl, fd2, hrep2, hS2, (hf2 st (.inl rfl)).trans (hfs1 st (.inl rfl)).2, (hf2 cm (.inr rfl)).trans (hfs1 cm (.inr rfl)).2⟩
 have e : completeW s n at_ l = putW (putW s n at_ (setM 0 l)).1 n at_ ((setM 1 l).take 1) := by unfold completeW; rw [if_neg heq]
 rw [e]
 have hws := putW_ws (n := n) (setM 0 l) s at_
 rw [setM_len] at hws
 generalize (putW s n at_ (setM 0 l)).1 = s2 at *
 have q2 : F2 bl = F1 bl := by rw [q1]; exact hS1.keep _ _ q1 hbd
 have hO2 : OwnS F2 104 64 sl (flatB (setM 0 l)) := hO1.keep fun a ha => by rw [e1] at ha; cases ha; exact q2
 have hbd2 : ¬ fd2 bl := fun e => by
  rcases hS2.new bl e with e | e
  ·exact hbd e
  ·rcases hS1.new bl ‹_› with e' | e'
   ·exact hbd e'
   ·rw [q1] at e'; cases e'
 obtain ⟨bl', cur', g1, g2, g3, hO3⟩ := own_setM hO2 (setM_ne hl) (setM_ok hb) 1
 rw [e1] at g1
 cases g1
 rw [setM_setM] at hO3
 refine ⟨_, e1, by omega, by omega, by omega, by omega, ?_⟩
 refine st1' (b := bl) (o := 0) (by simp) g2 g3 ?_
 have hrep3 : DRep (mns (F2.set bl (.cells (cur'.setIfInBounds 0 (.int .u8 1)) 104)) (fs2 st cm)) K d fd2 n s2 := by rw [mns_set hbs]; exact hrep2.setne hbd2 hKb
 have hS3 : Step fd G fd2 (F2.set bl (.cells (cur'.setIfInBounds 0 (.int .u8 1)) 104)) := hS2.set hbl
 have hf3 : ∀ b, fs2 st cm b → (F2.set bl (.cells (cur'.setIfInBounds 0 (.int .u8 1)) 104)) b = G b := fun b hb => by
  rw [set_ne _ _ (fun e : b = bl => hbs (by rw [← e]; exact hb)), hf2 b hb, (hfs1 b hb).2]
 generalize F2.set bl (.cells (cur'.setIfInBounds 0 (.int .u8 1)) 104) = F3 at *
 have hst3 : F3 st = some (.cells (scells d cm x) 84 (0, 0)) := (hf3 st (.inl rfl)).trans hst
 refine ⟨_, (cell_eq hst3).trans rfl, by omega, by have := hO.own.rd.cap; omega, ?_⟩
 have hcut := (hrd hO3 e1 hbd2).rd.cut (l := 0) (r := 1) (m := sl.cap) (by omega) (by omega) (by have := hO.own.rd.cap; omega)
 have hfl : ((flatB (setM 1 l)).drop (0 * 64)).take ((1 - 0) * 64) = flatB ((setM 1 l).take 1) := by
  cases l with
  | nil => exact absurd rfl hl
  | cons y r =>
   have hy := hb y (by simp)
   rw [Nat.zero_mul, List.drop_zero]
   simp only [setM, flatB, List.flatMap_cons, List.take_succ_cons, List.take_zero, List.flatMap_nil, List.append_nil]
   rw [List.take_append_of_le_length (by simp [hy]), List.take_of_length_le (by simp [hy])]
 rw [hfl] at hcut
 have ht1 : ((setM 1 l).take 1).length ≤ 1 := by rw [List.length_take]; omega
 refine (Spec.side (fun b hb => by rw [hf3 b hb, ← (hfs1 b hb).2]; exact (hfs1 b hb).1) (put_spec hrep3 hcut (fun b hb' => setM_ok hb b (List.mem_of_mem_take hb')) (by omega) h0 h1)).mono ?_
 rintro v F4 ⟨⟨rfl, fd4, hrep4, hs4⟩, hf4⟩
 exact ⟨_, rfl, rfl, fd4, hrep4, hS3.trans (hs4.side hf4 hrep4.dom), (hf4 st (.inl rfl)).trans (hf3 st (.inl rfl)), (hf4 cm (.inr rfl)).trans (hf3 cm (.inr rfl))⟩
end
end Go.Proofs.Ytelkfnmdnbbniaa
namespace Go.Proofs.Ytelkfnmdnbbniaa
open Go Go.Proofs.Try Go.Maps
set_option maxRecDepth 10000
structure Small (L : List Rc) : Prop where
 len : plen L ≤ 100000
 key : ∀ r ∈ L, r.1.size ≤ 255
theorem plen_le (L : List Rc) : L.length ≤ plen L := by
 induction L with
 | nil => exact Nat.zero_le _
 | cons r L ih => rw [plen_cons, List.length_cons]; omega
theorem SInv.small {D : Nat → List Int} {n : Nat} {x : SS} (h : SInv D n x) (hn : n ≤ 1000) : Small x.L := by
 refine ⟨?_, fun r hr => (h.good.1 r hr).2.1⟩
 have h1 := h.snap
 have h2 := h.size
 unfold snapN at h1
 by_cases e : x.L = []
 ·rw [e, plen_nil]; omega
 ·rw [if_neg e] at h1
  unfold secs at h1
  omega
theorem lkR_some {k : ByteArray} {L : List Rc} : lkR k L ≠ none ↔ k ∈ L.map (·.1) := by
 constructor
 ·intro h
  cases hv : lkR k L with
  | none => exact absurd hv h
  | some v => exact List.mem_map.2 ⟨_, lkR_mem hv, rfl⟩
 ·intro h hn
  induction L with
  | nil => simp at h
  | cons x L ih =>
   unfold lkR at hn
   by_cases e : x.1 = k
   ·rw [if_pos e] at hn; cases hn
   ·rw [if_neg e] at hn
    rw [List.map_cons, List.mem_cons] at h
    rcases h with h | h
    ·exact e h.symm
    ·exact ih h hn
theorem Srt.nodup {L : List Rc} (h : Srt L) : (L.map (·.1)).Nodup := List.pairwise_map.2 (h.imp fun hlt => ltK_ne hlt)
theorem lk_ne {K : Type} [DecidableEq K] {k : K} {L : List (K × Value)} : lk k L ≠ none ↔ k ∈ L.map (·.1) := by
 constructor
 ·intro h
  apply Classical.byContradiction
  intro hn
  exact h (lk_none k L fun p hp e => hn (List.mem_map.2 ⟨p, hp, e⟩))
 ·intro h hn
  induction L with
  | nil => simp at h
  | cons x L ih =>
   unfold lk at hn
   split at hn
   ·cases hn
   ·rename_i hne
    rw [List.map_cons, List.mem_cons] at h
    rcases h with h | h
    ·exact hne h
    ·exact ih h hn
theorem keys_perm {m : ByteArray → Option Value} {es : Array MapEntry} {c : Nat} {M : List (ByteArray × Value)} {V : PH} {L : List Rc} (hm : MapS m es c M) (hv : Vals V m L) (hs : Srt L) : (M.map (·.1)).Perm (L.map (·.1)) := by
 refine (List.perm_ext_iff_of_nodup hm.nodup hs.nodup).2 fun k => ?_
 rw [← lk_ne, ← hm.lk, ← lkR_some]
 constructor
 ·intro h hn
  exact h ((hv k).1 hn)
 ·intro h hn
  cases hl : lkR k L with
  | none => exact h hl
  | some v =>
   obtain ⟨s, h1, _⟩ := (hv k).2 v hl
   rw [hn] at h1
   cases h1
theorem sort_srt {L : List Rc} (h : Srt L) {ss : List (List UInt8)} (hp : ss.Perm (L.map fun r => kb r.1)) : ss.mergeSort leB = L.map fun r => kb r.1 := by
 rw [mergeSort_of_perm hp]
 refine List.mergeSort_of_pairwise ?_
 refine List.pairwise_map.2 (h.imp fun hlt => ?_)
 simp only [leB, decide_eq_true_eq]
 exact List.le_of_lt hlt
def anyR : Value → Option (DataW Unit × List MemPlace) := fun _ => some (.nil, [])
section
variable {F C V : PH} {st cm d : Nat} {x : SS}
theorem keys_spec (h : StO F V st cm d x) (hs : Small x.L) : Spec prog 31 #[.pointer (some ⟨st, 0, none⟩)] F fun v F' => ∃ sl, v = Sl.v sl ∧ Ov 9 1 F F' sl (x.L.map fun r => .string r.1) := by
 intro e w hsat
 obtain ⟨o, m, hcm, ⟨es, c, M, rfl, hm⟩, hv⟩ := h.hm
 have hkp := keys_perm hm hv h.srt
 have hkeys : es.toList.map (·.key) = (M.map (·.1)).map Value.string := by
  have := congrArg (List.map Prod.fst) hm.eq
  simpa [List.map_map, Function.comp_def] using this
 have hlen : es.size ≤ 1000000 := by
  have h1 := congrArg List.length hkeys
  have h2 := hkp.length_eq
  have h3 := plen_le x.L
  have h4 := hs.len
  simp at h1 h2
  omega
 have hread : ∀ y ∈ es.toList, ∃ k : ByteArray, y.key = .string k ∧ k ∈ x.L.map (·.1) := by
  intro y hy
  have : y.key ∈ es.toList.map (·.key) := List.mem_map.2 ⟨y, hy, rfl⟩
  rw [hkeys] at this
  obtain ⟨k, hk, hk2⟩ := List.mem_map.1 this
  exact ⟨k, hk2.symm, hkp.mem_iff.1 hk⟩
 have hml : maxLen = 9223372036854775807 := by decide
 have hko : ∀ y ∈ es.toList, ∀ k : ByteArray, y.key = .string k → k ∈ x.L.map (·.1) → WideElems.rd prog 9 anyR y = some (.string k.data.toList, .nil) := by
  intro y hy k hk hmem
  obtain ⟨r, hr, rfl⟩ := List.mem_map.1 hmem
  have := hs.key r hr
  obtain ⟨yk, yv, yb⟩ := y
  cases hk
  have hle : r.1.size ≤ maxLen := by omega
  exact WideElems.rd_mk (R := anyR) (yv := (.nil, [])) (WideMaps.keyOf_string_mk underlying9 hle) rfl
 have hown : w.ownsMap prog 9 anyR cm es.size (.map ((es.toList.map (WideElems.rg prog 9 anyR)).foldr DataW.insert [])) := by
  refine ⟨es, c, hsat.heap _ _ hcm, ⟨by omega, hm.st, fun y hy => ?_⟩, Nat.le_refl _, rfl⟩
  obtain ⟨k, hk, hmem⟩ := hread y hy
  exact ⟨_, hko y hy k hk hmem⟩
 have hperm := WideShapes.sorted_perm (es.toList.map (WideElems.rg prog 9 anyR))
 have hcell : w.cell? ⟨st, 5, none⟩ = some (.map (some cm)) := hsat.cell (by rw [cell_eq h.hs]; rfl)
 refine (Try.keys_calls st cm es.size _ anyR w hcell hown ?_).mono ?_
 ·show (List.foldr DataW.insert [] _).length ≤ _
  rw [hperm.length_eq]
  simpa using hlen
 rintro en w' ⟨v, ss, rfl, hss, hrow, hbel⟩
 have hss2 : ss.Perm (x.L.map fun r => kb r.1) := by
  refine hss.trans ?_
  refine (hperm.map fun p => strOf p.1).trans ?_
  rw [List.map_map]
  have e1 : es.toList.map ((fun p => strOf p.1) ∘ WideElems.rg prog 9 anyR) = (M.map (·.1)).map kb := by
   have e2 : (M.map (·.1)).map kb = (es.toList.map (·.key)).map fun v => match v with | .string k => kb k | _ => [] := by
    simp only [hkeys, List.map_map]
    rfl
   rw [e2, List.map_map]
   apply List.map_congr_left
   intro y hy
   obtain ⟨k, hk, hmem⟩ := hread y hy
   simp only [Function.comp, WideElems.rg_of (hko y hy k hk hmem), hk]
   rfl
  rw [e1]
  have := hkp.map kb
  rwa [List.map_map (l := x.L)] at this
 have hsort := sort_srt h.srt hss2
 have hvals : (ss.mergeSort leB).map encStr = x.L.map fun r => Value.string r.1 := by
  rw [hsort, List.map_map]
  apply List.map_congr_left
  intro r _
  show Value.string ⟨r.1.data.toList.toArray⟩ = _
  rfl
 rw [hvals] at hrow
 obtain ⟨hl, hrow⟩ := hrow
 rcases hrow with ⟨rfl, h0⟩ | ⟨g, cap, cur, rfl, hg1, hg2, hg3, hg4, hg5, hg6⟩
 ·refine ⟨_, F, rfl, ⟨hbel.os.trans hsat.os, hbel.tape.trans hsat.tape, hbel.output.trans hsat.output, fun b o hb => (hbel.block b (hsat.lt hb)).trans (hsat.heap b o hb), fun b o hb => ?_⟩, Sl.nil, rfl, ?_⟩
  ·obtain ⟨h1, h2⟩ := hsat.frame b o hb
   exact ⟨h1, (hbel.block b (Array.getElem?_eq_some_iff.1 h2).1).trans h2⟩
  ·have : (x.L.map fun r => Value.string r.1) = [] := List.eq_nil_of_length_eq_zero (by rw [hl, h0])
   rw [this]
   exact Ov.nil F 9 1
 ·have hgF : F g = none := by
   cases hf : F g with
   | none => rfl
   | some o => exact absurd (hsat.lt hf) (by omega)
  refine ⟨_, F.set g (.cells cur 9), rfl, ⟨hbel.os.trans hsat.os, hbel.tape.trans hsat.tape, hbel.output.trans hsat.output, fun b o hb => ?_, fun b o hb => ?_⟩, ⟨some ⟨g, 0, none⟩, ss.length, cap⟩, rfl, ?_⟩
  ·by_cases e : b = g
   ·subst e
    rw [set_eq] at hb
    cases hb
    exact hg2
   ·rw [set_ne _ _ e] at hb
    exact (hbel.block b (hsat.lt hb)).trans (hsat.heap b o hb)
  ·obtain ⟨h1, h2⟩ := hsat.frame b o hb
   have hlt := (Array.getElem?_eq_some_iff.1 h2).1
   exact ⟨by rw [set_ne _ _ (by omega)]; exact h1, (hbel.block b hlt).trans h2⟩
  ·exact ⟨le_set_fresh _ hgF, .inr ⟨g, cur, rfl, set_eq _ _ _, hg5, hg3, hl, hg6⟩, fun a ha => by cases ha; exact hgF⟩
end
theorem born_inj : ∀ {l : List MapEntry}, (l.map (·.born)).Nodup → ∀ {a b}, a ∈ l → b ∈ l → a.born = b.born → a = b
 | [], _, _, _, ha, _, _ => by simp at ha
 | x :: l, h, a, b, ha, hb, e => by
  rw [List.map_cons, List.nodup_cons] at h
  rcases List.mem_cons.1 ha with ha | ha <;> rcases List.mem_cons.1 hb with hb | hb
  ·rw [ha, hb]
  ·exact absurd (List.mem_map.2 ⟨b, hb, by rw [← e, ha]⟩) h.1
  ·exact absurd (List.mem_map.2 ⟨a, ha, by rw [e, hb]⟩) h.1
  ·exact born_inj h.2 ha hb e
theorem rdo_entry {F : PH} {es : Array MapEntry} {c r b : Nat} {seen : Array Nat} {e : MapEntry} (hr : F r = some (.map es c)) (hst : MapKept.Stamped es c) (hb : F b = some (.mapIter (some r) c (seen.push e.born) c)) (he : e ∈ es.toList) :
  rdo prog (Instr.entry (.pointer (some ⟨b, 0, none⟩))) F (.tuple #[e.key, e.val]) := by
 unfold Instr.entry
 simp only [rdo_bind]
 refine ⟨_, ⟨_, hb, fun _ _ _ h => (by cases h), rfl⟩, ?_⟩
 simp only [Array.back?_push]
 simp only [rdo_bind]
 refine ⟨_, ⟨_, hr, fun _ _ _ h => (by cases h), rfl⟩, ?_⟩
 simp only [bne_self_eq_false, Bool.false_eq_true, if_false]
 have hf : es.find? (fun x => x.born == e.born) = some e := by
  cases h : es.find? (fun x => x.born == e.born) with
  | none =>
   rw [Array.find?_eq_none] at h
   exact absurd (show (e.born == e.born) = true by simp) (h e (Array.mem_def.2 he))
  | some y =>
   have h1 := Array.mem_of_find?_eq_some h
   have h2 := Array.find?_some h
   rw [born_inj hst.2.1 (Array.mem_def.1 h1) he (by simpa using h2)]
 rw [hf]
 rfl
section
variable {F C V : PH} {st cm d : Nat} {x : SS}
theorem entry_at {m : ByteArray → Option Value} {es : Array MapEntry} {c : Nat} {M : List (ByteArray × Value)} {L : List Rc} (hm : MapS m es c M) (hv : Vals V m L) {e : MapEntry} (he : e ∈ es.toList) :
  ∃ (k : ByteArray) (v : List Int) (s : Sl), e.key = .string k ∧ lkR k L = some v ∧ e.val = s.v ∧ RdS V s 1 (u8s v) := by
 have h1 : (e.key, e.val) ∈ es.toList.map (fun e => (e.key, e.val)) := List.mem_map.2 ⟨e, he, rfl⟩
 rw [hm.eq] at h1
 obtain ⟨p, hp, h2⟩ := List.mem_map.1 h1
 injection h2 with h2 h3
 have h4 : m p.1 = some p.2 := by rw [hm.lk]; exact (lk_mem hm.nodup).2 hp
 cases hl : lkR p.1 L with
 | none => rw [(hv p.1).1 hl] at h4; cases h4
 | some v =>
  obtain ⟨s, h5, h6⟩ := (hv p.1).2 v hl
  rw [h4] at h5
  injection h5 with h5
  exact ⟨p.1, v, s, h2.symm, hl, by rw [← h3, h5], h6⟩
def entN (L : List Rc) (e : MapEntry) : Nat := match e.key with | .string k => k.size + ((lkR k L).getD []).length + 5 | _ => 0
def entS (L : List Rc) (l : List MapEntry) : Nat := (l.map (entN L)).sum
theorem entS_snoc (L : List Rc) (l : List MapEntry) (e : MapEntry) : entS L (l ++ [e]) = entS L l + entN L e := by simp [entS]
theorem entS_sub (L : List Rc) : ∀ {l l' : List MapEntry}, l.Perm l' → entS L l = entS L l' := fun h => (h.map _).sum_nat
theorem plen_sum : ∀ (L : List Rc), plen L = (L.map fun r => r.1.size + r.2.length + 5).sum
 | [] => rfl
 | r :: L => by rw [plen_cons, plen_sum L, List.map_cons, List.sum_cons]
theorem entS_all {m : ByteArray → Option Value} {es : Array MapEntry} {c : Nat} {M : List (ByteArray × Value)} {L : List Rc} (hm : MapS m es c M) (hv : Vals V m L) (hs : Srt L) : entS L es.toList = plen L := by
 have hkp := keys_perm hm hv hs
 have hkeys : es.toList.map (·.key) = (M.map (·.1)).map Value.string := by
  have := congrArg (List.map Prod.fst) hm.eq
  simpa [List.map_map, Function.comp_def] using this
 have e1 : entS L es.toList = ((M.map (·.1)).map fun k => k.size + ((lkR k L).getD []).length + 5).sum := by
  unfold entS
  congr 1
  have : es.toList.map (entN L) = (es.toList.map (·.key)).map fun v => match v with | .string k => k.size + ((lkR k L).getD []).length + 5 | _ => 0 := by
   rw [List.map_map]
   rfl
  rw [this, hkeys, List.map_map]
  rfl
 rw [e1, (hkp.map _).sum_nat, plen_sum, List.map_map]
 congr 1
 apply List.map_congr_left
 intro r hr
 simp only [Function.comp, lkR_at hs (show (r.1, r.2) ∈ L from hr), Option.getD_some]
theorem perm_of_sub {α : Type} {l l' : List α} (hn : l.Nodup) (hn' : l'.Nodup) (h1 : ∀ a ∈ l, a ∈ l') (h2 : ∀ a ∈ l', a ∈ l) : l.Perm l' :=
 (List.perm_ext_iff_of_nodup hn hn').2 fun a => ⟨h1 a, h2 a⟩
theorem nodup_of_map {α β : Type} {f : α → β} {l : List α} (h : (l.map f).Nodup) : l.Nodup := (List.pairwise_map.1 h).imp fun hne e => hne (by rw [e])
theorem entS_le (L : List Rc) : ∀ {l l' : List MapEntry}, l.Nodup → (∀ a ∈ l, a ∈ l') → entS L l ≤ entS L l' ∧ l.length ≤ l'.length
 | [], l', _, _ => ⟨by simp [entS], by simp⟩
 | a :: l, l', hn, h => by
  rw [List.nodup_cons] at hn
  obtain ⟨u, w, rfl⟩ := List.append_of_mem (h a (by simp))
  have hp : (u ++ a :: w).Perm (a :: (u ++ w)) := List.perm_middle
  have ih := entS_le L (l := l) (l' := u ++ w) hn.2 fun b hb => by
   have h2 := hp.mem_iff.1 (h b (by simp [hb]))
   rcases List.mem_cons.1 h2 with e | h2
   ·rw [e] at hb
    exact absurd hb hn.1
   ·exact h2
  have e1 := entS_sub L hp
  have e2 := hp.length_eq
  have e3 : entS L (a :: l) = entN L a + entS L l := by simp [entS]
  have e4 : entS L (a :: (u ++ w)) = entN L a + entS L (u ++ w) := by simp [entS]
  rw [List.length_cons] at e2 ⊢
  omega
theorem snapSize_spec (h : StO F V st cm d x) (hs : Small x.L) : Spec prog 53 #[.pointer (some ⟨st, 0, none⟩)] F fun v F' => v = .int .i64 (snapN x.L : Int) ∧ F.le F' := by
 obtain ⟨o, m, hcm, ⟨es, c, M, rfl, hm⟩, hv⟩ := h.hm
 have hall := entS_all hm hv h.srt
 have hkp := keys_perm hm hv h.srt
 have hesl : es.size = x.L.length := by have := hkp.length_eq; simp at this; rw [hm.len, this]
 have hnd : es.toList.Nodup := nodup_of_map hm.st.2.1
 have hlen := hs.len
 refine c53 ?_
 unfold b53
 refine ⟨_, rfl, _, by rw [add_mk, cell_eq h.hs]; rfl, _, rdo_lenMap hcm rfl, fun h0 => ?_, fun h0 => ?_⟩
 ·have : x.L = [] := List.eq_nil_of_length_eq_zero (by omega)
  refine ⟨?_, le_refl' _⟩
  rw [this]
  rfl
 have hne : x.L ≠ [] := fun e => h0 (by rw [hesl, e]; rfl)
 refine ⟨_, by rw [add_mk, cell_eq h.hs]; rfl, runs_range hcm ?_⟩
 intro b hb
 refine ⟨b, rfl, ?_⟩
 have hle := fun o => le_set_fresh (F := F) (b := b) o hb
 refine ⟨fun q n F' => ∃ (done : List MapEntry) (seen : Array Nat), done.Nodup ∧ (∀ e ∈ done, e ∈ es.toList) ∧ F' = F.set b (.mapIter (some cm) c seen c) ∧ seen.toList = done.map (·.born) ∧ n = (entS x.L done : Int) ∧ q = es.size - done.length, es.size,
  ⟨[], #[], List.nodup_nil, by simp, rfl, rfl, rfl, rfl⟩, ?_⟩
 rintro _ _ _ ⟨done, seen, hdn, hsub, rfl, hseen, rfl, rfl⟩
 unfold b53L1
 have hbnd := entS_le x.L hdn hsub
 have hb2 := set_eq F b (.mapIter (some cm) c seen c)
 have hcm2 := hle (.mapIter (some cm) c seen c) _ _ hcm
 refine runs_nextM hcm2 hm.st hb2 (fun hdone => ?_) (fun e he hnew => ?_)
 ·refine ⟨_, rfl, false, rfl, (fun h => by cases h), fun _ => ?_⟩
  unfold b53j1
  have hperm : done.Perm es.toList := perm_of_sub hdn hnd hsub fun a ha => by
   have h1 := hdone a ha
   rw [Array.contains_iff_mem, Array.mem_def, hseen] at h1
   obtain ⟨a', ha', e'⟩ := List.mem_map.1 h1
   rw [← born_inj hm.st.2.1 (hsub a' ha') ha e']
   exact ha'
  rw [entS_sub x.L hperm, hall]
  refine (sectors_of (by omega) (by omega)).mono ?_
  rintro v F2 ⟨rfl, rfl⟩
  refine ⟨_, rfl, ?_, hle _⟩
  unfold snapN secs
  rw [if_neg hne]
  congr 1
 ·refine ⟨_, rfl, true, rfl, fun _ => ?_, (fun h => by cases h)⟩
  rw [set_twice]
  obtain ⟨k, v, s, h1, h2, h3, h4⟩ := entry_at hm hv he
  have hent := rdo_entry (hle (.mapIter (some cm) c (seen.push e.born) c) _ _ hcm) hm.st (set_eq F b (.mapIter (some cm) c (seen.push e.born) c)) he
  rw [h1, h3] at hent
  refine ⟨k, s, hent, ?_⟩
  have hnd2 : e ∉ done := fun hin => by
   have : seen.contains e.born = true := by
    rw [Array.contains_iff_mem, Array.mem_def, hseen]
    exact List.mem_map.2 ⟨e, hin, rfl⟩
   rw [hnew] at this
   cases this
  have hdn2 : (done ++ [e]).Nodup := by
   rw [List.nodup_append]
   exact ⟨hdn, by simp, fun a ha b hb => by rw [List.mem_singleton.1 hb]; exact fun e' => hnd2 (e' ▸ ha)⟩
  have hsub2 : ∀ a ∈ done ++ [e], a ∈ es.toList := fun a ha => by
   rcases List.mem_append.1 ha with ha | ha
   ·exact hsub a ha
   ·rw [List.mem_singleton.1 ha]; exact he
  have hb2' := entS_le x.L hdn2 hsub2
  have hsl := h4.len
  rw [List.length_map, Nat.mul_one] at hsl
  have hen : entN x.L e = k.size + s.len + 5 := by
   unfold entN
   rw [h1]
   simp only [h2, Option.getD_some, hsl]
  have hlen2 : (done ++ [e]).length = done.length + 1 := by simp
  rw [entS_snoc, hen, hlen2] at hb2'
  have hsz : es.toList.length = es.size := Array.length_toList
  refine ⟨es.size - (done.length + 1), by omega, done ++ [e], seen.push e.born, hdn2, hsub2, rfl, by simp [hseen], ?_, by rw [hlen2]⟩
  rw [entS_snoc, hen, w64_eq (x := (k.size : Int) + (s.len : Int)) (by omega) (by omega), w64_eq (x := (k.size : Int) + (s.len : Int) + 5) (by omega) (by omega), w64_eq (by omega) (by omega)]
  omega
end
def u8l (ns : List Nat) : List Value := ns.map fun (n : Nat) => Value.int .u8 (n : Int)
def mkS (ns : List Nat) : ByteArray := ⟨(ns.map UInt8.ofNat).toArray⟩
section
variable {F : PH}
theorem bts_loop (P : Program) : ∀ (ns : List Nat) (s : ByteArray),
  rdo P (forIn (u8l ns) s fun c s => do
   let .int .u8 n := c | stuck "bytesToString: byte expected"
   let s := s.push (UInt8.ofNat n.toNat)
   pure (ForInStep.yield s)) F (ns.foldl (fun s n => s.push (UInt8.ofNat n)) s)
 | [], s => by simp [u8l, rdo]
 | n :: ns, s => by
  simp only [u8l, List.map_cons, List.forIn_cons, rdo_bind, List.foldl_cons]
  refine ⟨.yield (s.push (UInt8.ofNat n)), ?_, ?_⟩
  ·simp [rdo]
  ·exact bts_loop P ns _
theorem push_fold : ∀ (ns : List Nat) (s : ByteArray), ns.foldl (fun s n => s.push (UInt8.ofNat n)) s = ⟨s.data ++ (ns.map UInt8.ofNat).toArray⟩
 | [], s => by simp
 | n :: ns, s => by
  rw [List.foldl_cons, push_fold ns]
  simp [ByteArray.push]
theorem bts_rdo {P : Program} {s : Sl} {ns : List Nat} (h : RdS F s 1 (u8l ns)) : rdo P (Conv.bytesToString s.v) F (.string (mkS ns)) := by
 obtain ⟨base, len, cap⟩ := s
 have hl := h.len
 simp only [u8l, List.length_map, Nat.mul_one] at hl
 unfold Conv.bytesToString Sl.v
 cases base with
 | none =>
  have h0 : len = 0 := by
   rcases Nat.eq_zero_or_pos len with h0 | h0
   ·exact h0
   ·obtain ⟨b, o, h1, _⟩ := h.cells h0
    cases h1
  subst h0
  have : ns = [] := List.length_eq_zero_iff.1 (by omega)
  subst this
  rfl
 | some a =>
  simp only [rdo_bind]
  refine ⟨(u8l ns).toArray, ?_, ?_⟩
  ·have hr := h.row (a := a) rfl 0 (u8l ns).toArray (by simp)
   rw [show a.add 0 = a from rfl] at hr
   have := rdo_loadCells (P := P) hr
   simp only [u8l, List.size_toArray, List.length_map] at this
   rw [hl] at this
   exact this
  ·refine ⟨ns.foldl (fun s n => s.push (UInt8.ofNat n)) .empty, ?_, ?_⟩
   ·rw [← Array.forIn_toList]
    exact bts_loop P ns .empty
   ·rw [push_fold]
    show (Value.string _) = _
    simp [mkS, ByteArray.empty, ByteArray.emptyWithCapacity]
    rfl
end
theorem str_rdo {F : PH} {s : Sl} {st : ByteArray} (h : RdS F s 1 (strB st)) : rdo prog (Conv.bytesToString s.v) F (.string st) := by
 have e : strB st = u8l (st.data.toList.map UInt8.toNat) := by
  simp [strB, u8s, ib, u8l]
 have e2 : mkS (st.data.toList.map UInt8.toNat) = st := by
  unfold mkS
  rw [List.map_map]
  have : List.map (UInt8.ofNat ∘ UInt8.toNat) st.data.toList = st.data.toList := by
   refine (List.map_congr_left fun b _ => ?_).trans (List.map_id _)
   simp [Function.comp]
  rw [this]
 rw [e] at h
 have := bts_rdo (P := prog) h
 rwa [e2] at this
theorem st_pair {k : ByteArray} {s : Sl} : ∀ v ∈ [Value.string k, s.v], storable v := by
 intro v hv
 simp at hv
 rcases hv with rfl | rfl
 ·exact st_str
 ·exact st_sl
theorem rtc_snoc (T : List Rt) (x : Rt) : rtc (T ++ [x]) = rtc T ++ [.string x.1, x.2.1.v] := by simp [rtc]
theorem rcs_snoc (T : List Rt) (x : Rt) : rcs (T ++ [x]) = rcs T ++ [(x.1, x.2.2)] := by simp [rcs]
theorem take_next' {α : Type} {l : List α} {k : Nat} (h : k < l.length) : l.take (k + 1) = l.take k ++ [l[k]] := by rw [List.take_add_one, List.getElem?_eq_getElem h]; rfl
theorem mns_same {F : PH} {fp : Nat → Prop} {b : Nat} {o : Obj} (h : fp b) : mns (F.set b o) fp = mns F fp := by
 funext x
 by_cases e : fp x
 ·simp [mns, e]
 ·rw [mns_of e, mns_of e, set_ne _ _ (fun e2 : x = b => e (by rw [e2]; exact h))]
section
variable {F C V : PH} {st cm d : Nat} {x : SS}
theorem snapshot_spec (h : StO F V st cm d x) (hV : V.le F) (hs : Small x.L) : Spec prog 67 #[.pointer (some ⟨st, 0, none⟩)] F fun v F' => ∃ sl T, v = Sl.v sl ∧ rcs T = x.L ∧ RdT F' sl T ∧ F.le F' := by
 obtain ⟨o, m, hcm, hm, hv⟩ := h.hm
 have hpl := plen_le x.L
 have hsl := hs.len
 refine c67 ?_
 unfold b67
 refine (keys_spec h hs).mono ?_
 rintro v F1 ⟨ks, rfl, hK⟩
 have hkr := hK.own.rd
 have hkl := hkr.len
 rw [List.length_map, Nat.mul_one] at hkl
 refine ⟨_, rfl, ?_⟩
 refine ⟨fun q out i F' => ∃ (k : Nat) (G : PH) (T : List Rt), i = k ∧ k ≤ x.L.length ∧ q = x.L.length - k ∧ F1.le G ∧ Ov 41 2 G F' out (rtc T) ∧ rcs T = x.L.take k ∧ ∀ y ∈ T, RdS F y.2.1 1 (u8s y.2.2), x.L.length,
  ⟨0, F1, [], rfl, by omega, rfl, le_refl' _, Ov.nil _ _ _, rfl, by simp⟩, ?_⟩
 rintro _ out _ F2 ⟨k, G, T, rfl, hk, rfl, lG, hO, hT, hTv⟩
 unfold b67L1
 have hTl : T.length = k := by have := congrArg List.length hT; simp [rcs] at this; omega
 refine ⟨fun hlt => ?_, fun hge => ?_⟩
 ·have hk' : k < x.L.length := by omega
  have hkr2 := hkr.le (le_trans' lG hO.le)
  obtain ⟨b, o', hbase⟩ := hkr2.base (by omega)
  have hcell := hkr2.cell hbase (i := k) (by rw [List.length_map]; exact hk')
  rw [List.getElem_map] at hcell
  have hmem : x.L[k] ∈ x.L := List.getElem_mem _
  obtain ⟨sv, hsv, hrd⟩ := (hv x.L[k].1).2 x.L[k].2 (lkR_at h.srt hmem)
  have lF := le_trans' hK.le (le_trans' lG hO.le)
  have hlook := rdo_lookup mtS (lF _ _ hcm) hm.mapO x.L[k].1 false
  rw [if_neg (by decide), hsv, Option.getD_some] at hlook
  refine ⟨_, hbase, by omega, by omega, x.L[k].1, by rw [Int.toNat_natCast, Nat.mul_one]; exact hcell, _, rfl, _, by rw [add_mk, cell_eq (lF _ _ h.hs)]; rfl, sv, hlook, rfl, ?_⟩
  intro b22 h22
  refine atI ?_
  have hO1 := hO.newg h22 (.cells #[.string x.L[k].1, sv.v] 41)
  have lG1 := hO.gle h22 (.cells #[.string x.L[k].1, sv.v] 41)
  have q22 := set_eq F2 b22 (.cells #[.string x.L[k].1, sv.v] 41)
  have hol := hO1.len
  rw [rtc_length] at hol
  refine hO1.app (x := ⟨some ⟨b22, 0, none⟩, 1, 1⟩) (news := [.string x.L[k].1, sv.v]) underlying26 sz41 zr41 rfl (by decide) (RdS.new q22 rfl rfl (Nat.le_refl _)) st_pair (by simp only; omega) (by simp only; omega) ?_
  intro s1 F3 hO2
  refine ⟨x.L.length - (k + 1), by omega, k + 1, _, T ++ [(x.L[k].1, sv, x.L[k].2)], w64s (by omega), by omega, rfl, le_trans' lG lG1, ?_, ?_, ?_⟩
  ·rw [rtc_snoc]; exact hO2
  ·rw [rcs_snoc, hT, take_next' hk']
  ·intro y hy
   rcases List.mem_append.1 hy with hy | hy
   ·exact hTv y hy
   ·rw [List.mem_singleton.1 hy]
    exact hrd.le hV
 ·obtain rfl : k = x.L.length := by omega
  unfold b67j1
  rw [List.take_length] at hT
  have lF := le_trans' hK.le (le_trans' lG hO.le)
  exact ⟨out, T, rfl, hT, ⟨hO.own.rd, fun y hy => (hTv y hy).le lF⟩, lF⟩
end
theorem map_cell {F : PH} {b : Nat} {m : ByteArray → Option Value} {o : Obj} (h : F b = some o) (hm : MapE m o) (i : Nat) : F.cell ⟨b, i, none⟩ = none := by
 obtain ⟨es, c, L, rfl, _⟩ := hm
 simp [PH.cell, h]
theorem RdS.without {F : PH} {s : Sl} {size : Nat} {vs : List Value} (h : RdS F s size vs) {b : Nat} (hb : ∀ i, F.cell ⟨b, i, none⟩ = none) : RdS (mns F (· = b)) s size vs := by
 refine ⟨h.len, h.cap, fun hp => ?_⟩
 obtain ⟨c, o', h1, h2⟩ := h.cells hp
 refine ⟨c, o', h1, fun i hi => ?_⟩
 have := h2 i hi
 have e : ¬ c = b := fun e => by rw [e, hb] at this; cases this
 have e2 : mns F (· = b) c = F c := mns_of e
 unfold PH.cell at this ⊢
 simp only [e2]
 exact this
theorem Vals.upd {V : PH} {m : ByteArray → Option Value} {L : List Rc} (h : Vals V m L) {r : Rc} {s : Sl} (hr : r.2.length ≠ 0) (hs : RdS V s 1 (u8s r.2)) : Vals V (fun k' => if k' = r.1 then some s.v else m k') (withR L r) := by
 intro k
 rw [withR_lk, if_neg hr]
 dsimp only
 by_cases e : k = r.1
 ·rw [if_pos e, if_pos e.symm]
  exact ⟨fun h => (by cases h), fun v hv => by cases hv; exact ⟨s, rfl, hs⟩⟩
 ·rw [if_neg e, if_neg (fun e' => e e'.symm)]
  exact h k
theorem Vals.del {V : PH} {m : ByteArray → Option Value} {L : List Rc} (h : Vals V m L) {r : Rc} (hr : r.2.length = 0) : Vals V (fun k' => if k' = r.1 then none else m k') (withR L r) := by
 intro k
 rw [withR_lk, if_pos hr]
 dsimp only
 by_cases e : k = r.1
 ·rw [if_pos e, if_pos e.symm]
  exact ⟨fun _ => rfl, fun v hv => (by cases hv)⟩
 ·rw [if_neg e, if_neg (fun e' => e e'.symm)]
  exact h k
section
variable {F : PH} {cm : Nat} {fp : Nat → Prop}
theorem apply_spec {o : Obj} {m : ByteArray → Option Value} {L : List Rc} {sl : Sl} {T : List Rt} (hcm : F cm = some o) (hm : MapE m o) (hv : Vals (mns F fp) m L) (hfp : ∀ b, fp b → F b ≠ none) (hc : fp cm) (hr : RdT F sl T) (hT : T.length ≤ 1000000) (hTv : ∀ y ∈ T, y.2.2.length ≤ 100000000) :
  Spec prog 49 #[.map (some cm), sl.v] F fun v F' => v = .tuple #[] ∧ ∃ o' m', F' cm = some o' ∧ MapE m' o' ∧ Vals (mns F' fp) m' (afterR L (rcs T)) ∧ Keep (· = cm) F F' := by
 have hrl := hr.len
 have hr0 : RdT (mns F (· = cm)) sl T := ⟨hr.rd.without (map_cell hcm hm), fun y hy => (hr.vals y hy).without (map_cell hcm hm)⟩
 refine c49 ?_
 unfold b49
 refine ⟨fun q i F' => ∃ (k : Nat) (o' : Obj) (m' : ByteArray → Option Value), i = k ∧ k ≤ T.length ∧ q = T.length - k ∧ F' cm = some o' ∧ MapE m' o' ∧ Vals (mns F' fp) m' (afterR L (rcs (T.take k))) ∧ Keep (· = cm) F F', T.length,
  ⟨0, o, m, rfl, by omega, rfl, hcm, hm, hv, Keep.refl _ _⟩, ?_⟩
 rintro _ _ F1 ⟨k, o1, m1, rfl, hk, rfl, hcm1, hm1, hv1, hkp⟩
 unfold b49L1
 refine ⟨fun hlt => ?_, fun hge => ?_⟩
 ·have hk' : k < T.length := by omega
  obtain ⟨y, hy⟩ : ∃ y, T[k]? = some y := ⟨_, List.getElem?_eq_getElem hk'⟩
  have hyT := List.mem_of_getElem? hy
  have hkl : (mns F (· = cm)).le F1 := mns_keep hkp fun b hb => hb
  have hr1 := hr0.le hkl
  obtain ⟨a, ha, hrow⟩ := hr1.row hy
  have hval := hr1.vals y hyT
  have hvl := hval.len
  rw [List.length_map, Nat.mul_one] at hvl
  have hyl := hTv y hyT
  refine ⟨a, ha, by omega, by omega, _, rfl, hrow, ?_⟩
  intro b5 h5
  refine atI ?_
  refine stW (set_eq _ _ _) rfl rfl (st_two st_str st_sl) ?_
  rw [set_twice]
  have l5 := le_set_fresh (.cells #[.string y.1, y.2.1.v] 41) h5
  have q5 := set_eq F1 b5 (.cells #[.string y.1, y.2.1.v] 41)
  have hne5 : cm ≠ b5 := ne_of_fresh h5 hcm1
  have hcm2 := l5 _ _ hcm1
  have hv2 := hv1.le (mns_mono (fp := fp) l5)
  have hkp2 : Keep (· = cm) F (F1.set b5 (.cells #[.string y.1, y.2.1.v] 41)) := hkp.trans (Keep.of_le l5)
  have hval2 := hval.le l5
  generalize F1.set b5 (.cells #[.string y.1, y.2.1.v] 41) = F2 at *
  have htake : rcs (T.take (k + 1)) = rcs (T.take k) ++ [(y.1, y.2.2)] := by
   rw [List.take_add_one, hy]
   exact rcs_snoc _ _
  have haft : afterR L (rcs (T.take (k + 1))) = withR (afterR L (rcs (T.take k))) (y.1, y.2.2) := by
   rw [htake, afterR_append]
   rfl
  refine ⟨y.2.1, by rw [cell_eq q5]; rfl, fun h0 => ?_, fun h0 => ?_⟩
  ·refine ⟨y.1, by rw [cell_eq q5]; rfl, ?_⟩
   refine runs_del hcm2 hm1 y.1 ?_
   intro o2 hm2
   unfold b49j1
   refine ⟨T.length - (k + 1), by omega, k + 1, o2, _, w64s (by omega), by omega, rfl, set_eq _ _ _, hm2, ?_, hkp2.trans (Keep.set _ (.inl rfl))⟩
   rw [haft, mns_same hc]
   exact hv2.del (r := (y.1, y.2.2)) (by show y.2.2.length = 0; omega)
  ·refine ⟨y.1, by rw [cell_eq q5]; rfl, y.2.1, by rw [cell_eq q5]; rfl, ?_⟩
   refine (clone5_spec hval2 st_u8s (by omega)).mono ?_
   rintro v F3 ⟨s3, rfl, hl3, hcl⟩
   refine ⟨_, rfl, by rw [cell_eq (hcl.1 _ _ q5)]; rfl, ?_⟩
   refine runs_upd (hcl.1 _ _ hcm2) hm1 y.1 s3.v ?_
   intro o2 hm2
   unfold b49j1
   refine ⟨T.length - (k + 1), by omega, k + 1, o2, _, w64s (by omega), by omega, rfl, set_eq _ _ _, hm2, ?_, (hkp2.trans (Keep.of_le hcl.1)).trans (Keep.set _ (.inl rfl))⟩
   rw [haft, mns_same hc]
   refine (hv2.le (mns_mono (fp := fp) hcl.1)).upd (r := (y.1, y.2.2)) (by show y.2.2.length ≠ 0; omega) (hcl.rd (fp := fp) fun b hb => ?_)
   by_cases e : b = cm
   ·rw [e, hcm2]; simp
   ·cases hf : F b with
    | none => exact absurd hf (hfp b hb)
    | some p => rw [hkp2 b p hf e]; simp
 ·obtain rfl : k = T.length := by omega
  rw [List.take_length] at hv1
  exact ⟨rfl, o1, m1, hcm1, hm1, hv1, hkp⟩
end
theorem bvi_of {a : Nat} (h : a < 18446744073709551616) : (BitVec.ofInt (IntKind.i64).bits (a : Int)).toNat = a := by
 rw [BitVec.toNat_ofInt]
 show ((a : Int) % ((2 ^ 64 : Nat) : Int)).toNat = a
 have : ((2 ^ 64 : Nat) : Int) = 18446744073709551616 := by decide
 rw [this]
 omega
theorem i64_or {a b : Nat} (ha : a < 4611686018427387904) (hb : b < 4611686018427387904) : IntKind.i64.wrap ((BitVec.ofInt (IntKind.i64).bits (a : Int) ||| BitVec.ofInt (IntKind.i64).bits (b : Int)).toNat) = ((a ||| b : Nat) : Int) := by
 rw [BitVec.toNat_or, bvi_of (by omega), bvi_of (by omega)]
 have : a ||| b < 2 ^ 62 := Nat.or_lt_two_pow ha hb
 exact w64_eq (by omega) (by omega)
theorem or_add {a b k : Nat} (hb : b < 2 ^ k) : a * 2 ^ k ||| b = a * 2 ^ k + b := by
 have := Nat.shiftLeft_add_eq_or_of_lt hb a
 rw [Nat.shiftLeft_eq] at this
 exact this.symm
theorem un4_eq {n : Nat} (h : n ≤ 100000000) {v0 v1 v2 v3 : Int} (h0 : v0 = IntKind.u8.wrap (Int.fdiv (n : Int) (2 ^ 24))) (h1 : v1 = IntKind.u8.wrap (Int.fdiv (n : Int) (2 ^ 16))) (h2 : v2 = IntKind.u8.wrap (Int.fdiv (n : Int) (2 ^ 8))) (h3 : v3 = IntKind.u8.wrap (n : Int)) :
  IntKind.i64.wrap ((4 : Int) + (IntKind.i64.wrap ((BitVec.ofInt (IntKind.i64).bits (IntKind.i64.wrap ((BitVec.ofInt (IntKind.i64).bits (IntKind.i64.wrap ((BitVec.ofInt (IntKind.i64).bits (IntKind.i64.wrap ((IntKind.i64.wrap v0) * 2 ^ (min (Int.toNat (24 : Int)) (IntKind.i64).bits))) ||| BitVec.ofInt (IntKind.i64).bits (IntKind.i64.wrap ((IntKind.i64.wrap v1) * 2 ^ (min (Int.toNat (16 : Int)) (IntKind.i64).bits)))).toNat)) ||| BitVec.ofInt (IntKind.i64).bits (IntKind.i64.wrap ((IntKind.i64.wrap v2) * 2 ^ (min (Int.toNat (8 : Int)) (IntKind.i64).bits)))).toNat)) ||| BitVec.ofInt (IntKind.i64).bits (IntKind.i64.wrap v3)).toNat))) = ((4 + n : Nat) : Int) := by
 have e0 : v0 = ((n / 16777216 % 256 : Nat) : Int) := by
  rw [h0, wu8_mod, Int.fdiv_eq_ediv_of_nonneg _ (by decide), show (2 : Int) ^ 24 = 16777216 by decide]; omega
 have e1 : v1 = ((n / 65536 % 256 : Nat) : Int) := by
  rw [h1, wu8_mod, Int.fdiv_eq_ediv_of_nonneg _ (by decide), show (2 : Int) ^ 16 = 65536 by decide]; omega
 have e2 : v2 = ((n / 256 % 256 : Nat) : Int) := by
  rw [h2, wu8_mod, Int.fdiv_eq_ediv_of_nonneg _ (by decide), show (2 : Int) ^ 8 = 256 by decide]; omega
 have e3 : v3 = ((n % 256 : Nat) : Int) := by rw [h3, wu8_mod]; omega
 rw [e0, e1, e2, e3]
 have p24 : (2 : Int) ^ (min (Int.toNat (24 : Int)) (IntKind.i64).bits) = 16777216 := by decide
 have p16 : (2 : Int) ^ (min (Int.toNat (16 : Int)) (IntKind.i64).bits) = 65536 := by decide
 have p8 : (2 : Int) ^ (min (Int.toNat (8 : Int)) (IntKind.i64).bits) = 256 := by decide
 rw [p24, p16, p8, w64_eq (x := ((n / 16777216 % 256 : Nat) : Int)) (by omega) (by omega), w64_eq (x := ((n / 65536 % 256 : Nat) : Int)) (by omega) (by omega), w64_eq (x := ((n / 256 % 256 : Nat) : Int)) (by omega) (by omega), w64_eq (x := ((n % 256 : Nat) : Int)) (by omega) (by omega)]
 rw [w64_eq (x := ((n / 16777216 % 256 : Nat) : Int) * 16777216) (by omega) (by omega), w64_eq (x := ((n / 65536 % 256 : Nat) : Int) * 65536) (by omega) (by omega), w64_eq (x := ((n / 256 % 256 : Nat) : Int) * 256) (by omega) (by omega)]
 rw [show ((n / 16777216 % 256 : Nat) : Int) * 16777216 = ((n / 16777216 % 256 * 2 ^ 24 : Nat) : Int) by omega, show ((n / 65536 % 256 : Nat) : Int) * 65536 = ((n / 65536 % 256 * 65536 : Nat) : Int) by omega, show ((n / 256 % 256 : Nat) : Int) * 256 = ((n / 256 % 256 * 256 : Nat) : Int) by omega]
 rw [i64_or (by omega) (by omega), or_add (by omega)]
 rw [show n / 16777216 % 256 * 2 ^ 24 + n / 65536 % 256 * 65536 = (n / 65536) * 2 ^ 16 by omega, i64_or (by omega) (by omega), or_add (by omega)]
 rw [show (n / 65536) * 2 ^ 16 + n / 256 % 256 * 256 = (n / 256) * 2 ^ 8 by omega, i64_or (by omega) (by omega), or_add (by omega)]
 rw [show (n / 256) * 2 ^ 8 + n % 256 = n by omega, w64_eq (by omega) (by omega)]
 omega
section
variable {F : PH}
theorem RdS.cutu {s : Sl} {l : List Int} (h : RdS F s 1 (u8s l)) {a b m : Nat} (h1 : a ≤ b) (h2 : b ≤ s.len) (h3 : b ≤ m) : RdS F (s.cut 1 a b m) 1 (u8s ((l.drop a).take (b - a))) := by
 have := h.cut h1 h2 h3
 rw [Nat.mul_one, Nat.mul_one] at this
 simpa [u8s, List.map_take, List.map_drop] using this
theorem RdS.ulen {s : Sl} {l : List Int} (h : RdS F s 1 (u8s l)) : s.len = l.length := by
 have := h.len
 rw [List.length_map, Nat.mul_one] at this
 exact this.symm
theorem drop_be4 (n : Nat) (l : List Int) : (be4 n ++ l).drop 4 = l := rfl
theorem payl_cons (r : Rc) (l : List Rc) : payl (r :: l) = pay1 r ++ payl l := by simp [payl]
theorem payl_drop {t : List Rc} {k : Nat} (h : k < t.length) : payl (t.drop k) = IntKind.u8.wrap (t[k].1.size : Int) :: (ib t[k].1 ++ (be4 t[k].2.length ++ (t[k].2 ++ payl (t.drop (k + 1))))) := by
 rw [drop_next h, payl_cons]
 simp only [pay1, List.append_assoc, List.singleton_append, List.cons_append, List.nil_append]
theorem records_spec {s : Sl} {t : List Rc} (hr : RdS F s 1 (u8s (payl t))) (ht : OkT t) (hl : plen t ≤ 1000000000) : Spec prog 50 #[s.v] F fun v F' => ∃ sl T, v = Sl.v sl ∧ rcs T = t ∧ RdT F' sl T ∧ F.le F' := by
 have hpl := plen_le t
 refine c50 ?_
 unfold b50
 refine ⟨fun q data out F' => ∃ (k : Nat) (G : PH) (T : List Rt), k ≤ t.length ∧ q = t.length - k ∧ F.le G ∧ RdS F data 1 (u8s (payl (t.drop k))) ∧ Ov 41 2 G F' out (rtc T) ∧ rcs T = t.take k ∧ ∀ y ∈ T, RdS F y.2.1 1 (u8s y.2.2), t.length,
  ⟨0, F, [], by omega, rfl, le_refl' _, hr, Ov.nil _ _ _, rfl, by simp⟩, ?_⟩
 rintro _ data out F2 ⟨k, G, T, hk, rfl, lG, hd, hO, hT, hTv⟩
 unfold b50L1
 have hTl : T.length = k := by have := congrArg List.length hT; simp [rcs] at this; omega
 have hdl := hd.ulen
 refine ⟨fun hlt => ?_, fun hge => ?_⟩
 ·have hk' : k < t.length := by
   rcases Nat.lt_or_ge k t.length with h | h
   ·exact h
   ·rw [List.drop_of_length_le h] at hdl
    simp [payl] at hdl
    omega
  have hok := ht t[k] (List.getElem_mem _)
  have hrc : t[k] = (t[k].1, t[k].2) := rfl
  rw [payl_drop hk'] at hd
  generalize t[k].1 = key at *
  generalize t[k].2 = val at *
  generalize hrest : payl (t.drop (k + 1)) = rest at *
  have hd2 := hd.le (le_trans' lG hO.le)
  have hlen := hd.ulen
  simp only [List.length_cons, List.length_append, ib_len, show ∀ n, (be4 n).length = 4 from fun _ => rfl] at hlen
  obtain ⟨a, ha, hc⟩ := hd2.byte (i := 0) (by simp)
  have ek : IntKind.i64.wrap ((1 : Int) + IntKind.i64.wrap (IntKind.u8.wrap (key.size : Int))) = ((1 + key.size : Nat) : Int) := by
   rw [wu8_mod, w64_eq (x := (key.size : Int) % 256) (by omega) (by omega), w64_eq (by omega) (by omega)]
   omega
  have hcap := hd.cap
  have hkey := hd2.cutu (a := 1) (b := 1 + key.size) (m := data.cap) (by omega) (by omega) (by omega)
  have ekey : ((IntKind.u8.wrap (key.size : Int) :: (ib key ++ (be4 val.length ++ (val ++ rest)))).drop 1).take (1 + key.size - 1) = ib key := by
   rw [List.drop_succ_cons, List.drop_zero, List.take_left' (by rw [ib_len]; omega)]
  rw [ekey] at hkey
  have hc' : F2.cell (a.add (Int.toNat (0 : Int) * 1)) = some (.int .u8 (IntKind.u8.wrap (key.size : Int))) := hc
  refine ⟨a, ha, by omega, hlt, _, hc', ?_⟩
  rw [ek, Int.toNat_natCast]
  refine ⟨by omega, by omega, by omega, key, str_rdo hkey, ?_⟩
  intro b5 h5
  refine atI ?_
  refine stW (set_eq _ _ _) rfl rfl (st_two st_str (st_sl (x := Sl.nil))) ?_
  rw [set_twice]
  -- behind the key
  have hD := hd.cutu (a := 1 + key.size) (b := data.len) (m := data.cap) (by omega) (Nat.le_refl _) (by omega)
  have eD : ((IntKind.u8.wrap (key.size : Int) :: (ib key ++ (be4 val.length ++ (val ++ rest)))).drop (1 + key.size)).take (data.len - (1 + key.size)) = be4 val.length ++ (val ++ rest) := by
   rw [show 1 + key.size = key.size + 1 by omega, List.drop_succ_cons, List.drop_left' (ib_len _), List.take_of_length_le (by simp only [List.length_append, show (be4 val.length).length = 4 from rfl]; omega)]
  rw [eD] at hD
  have hDl := hD.ulen
  have hDcap := hD.cap
  simp only [List.length_append, show (be4 val.length).length = 4 from rfl] at hDl
  refine ⟨by omega, by omega, by omega, ?_⟩
  generalize Sl.cut data 1 (1 + key.size) data.len data.cap = D at *
  have hO1 := hO.newg h5 (.cells #[.string key, .slice none 0 0] 41)
  have lG1 := le_trans' lG (hO.gle h5 (.cells #[.string key, .slice none 0 0] 41))
  have hD1 := hD.le (le_trans' lG1 hO1.le)
  obtain ⟨a0, ha0, hc0⟩ := hD1.byte (i := 0) (by simp [be4])
  obtain ⟨a1, ha1, hc1⟩ := hD1.byte (i := 1) (by simp [be4])
  obtain ⟨a2, ha2, hc2⟩ := hD1.byte (i := 2) (by simp [be4])
  obtain ⟨a3, ha3, hc3⟩ := hD1.byte (i := 3) (by simp [be4])
  refine ⟨a0, ha0, by omega, by omega, IntKind.u8.wrap (Int.fdiv (val.length : Int) (2 ^ 24)), hc0, a1, ha1, by omega, by omega, IntKind.u8.wrap (Int.fdiv (val.length : Int) (2 ^ 16)), hc1, a2, ha2, by omega, by omega, IntKind.u8.wrap (Int.fdiv (val.length : Int) (2 ^ 8)), hc2, a3, ha3, by omega, by omega, IntKind.u8.wrap (val.length : Int), hc3, ?_⟩
  rw [un4_eq (n := val.length) (by omega) rfl rfl rfl rfl, Int.toNat_natCast]
  have hval := hD.cutu (a := 4) (b := 4 + val.length) (m := D.cap) (by omega) (by omega) (by omega)
  have eval : ((be4 val.length ++ (val ++ rest)).drop 4).take (4 + val.length - 4) = val := by
   rw [drop_be4, List.take_left' (by omega)]
  rw [eval] at hval
  have hnxt := hD.cutu (a := 4 + val.length) (b := D.len) (m := D.cap) (by omega) (Nat.le_refl _) (by omega)
  have enxt : ((be4 val.length ++ (val ++ rest)).drop (4 + val.length)).take (D.len - (4 + val.length)) = rest := by
   rw [← List.drop_drop, drop_be4, List.drop_left' rfl, List.take_of_length_le (by omega)]
  rw [enxt] at hnxt
  refine ⟨by omega, by omega, by omega, ?_⟩
  refine st1' (b := b5) (o := 1) rfl (set_eq _ _ _) (by simp) ?_
  rw [set_twice]
  have ec : (#[Value.string key, .slice none 0 0] : Array Value).setIfInBounds 1 (Sl.v (Sl.cut D 1 4 (4 + val.length) D.cap)) = #[.string key, Sl.v (Sl.cut D 1 4 (4 + val.length) D.cap)] := rfl
  have hO2 := hO.newg h5 (.cells #[.string key, Sl.v (Sl.cut D 1 4 (4 + val.length) D.cap)] 41)
  have lG2 := le_trans' lG (hO.gle h5 (.cells #[.string key, Sl.v (Sl.cut D 1 4 (4 + val.length) D.cap)] 41))
  have q5 := set_eq F2 b5 (.cells #[.string key, Sl.v (Sl.cut D 1 4 (4 + val.length) D.cap)] 41)
  refine ⟨by omega, by omega, by omega, #[.string key, Sl.v (Sl.cut D 1 4 (4 + val.length) D.cap)], rfl, ?_, rfl, ?_⟩
  ·exact row_whole q5
  generalize Sl.cut D 1 4 (4 + val.length) D.cap = vs at *
  intro b57 h57
  refine atI ?_
  have h57' : (F2.set b5 (.cells #[.string key, vs.v] 41)) b57 = none := h57
  have hO3 := hO2.newg h57' (.cells #[.string key, vs.v] 41)
  have lG3 := le_trans' lG2 (hO2.gle h57' (.cells #[.string key, vs.v] 41))
  have q57 := set_eq (F2.set b5 (.cells #[.string key, vs.v] 41)) b57 (.cells #[.string key, vs.v] 41)
  have hol := hO3.len
  rw [rtc_length] at hol
  refine hO3.app (x := ⟨some ⟨b57, 0, none⟩, 1, 1⟩) (news := [.string key, vs.v]) underlying26 sz41 zr41 rfl (by decide) (RdS.new q57 rfl rfl (Nat.le_refl _)) st_pair (by simp only; omega) (by simp only; omega) ?_
  intro s1 F3 hO4
  refine ⟨t.length - (k + 1), by omega, k + 1, _, T ++ [(key, vs, val)], by omega, rfl, lG3, by rw [hrest]; exact hnxt, by rw [rtc_snoc]; exact hO4, ?_, ?_⟩
  ·rw [rcs_snoc, hT, take_next' hk', hrc]
  ·intro y hy
   rcases List.mem_append.1 hy with hy | hy
   ·exact hTv y hy
   ·rw [List.mem_singleton.1 hy]
    exact hval
 ·have hkt : k = t.length := by
   rcases Nat.lt_or_ge k t.length with h | h
   ·rw [payl_drop h, List.length_cons] at hdl
    omega
   ·omega
  subst hkt
  unfold b50j1
  rw [List.take_length] at hT
  have lF := le_trans' lG hO.le
  exact ⟨out, T, rfl, hT, ⟨hO.own.rd, fun y hy => (hTv y hy).le lF⟩, lF⟩
end
section
variable {F K : PH} {d n st cm : Nat} {fd : Nat → Prop} {s : DS} {y : SS}
theorem capacity_spec (hst : F st = some (.cells (scells d cm y) 84 (0, 0))) (h1 : 1 ≤ y.size) (h2 : y.size ≤ 1000000) : Spec prog 44 #[.pointer (some ⟨st, 0, none⟩)] F fun v F' => v = .int .i64 ((y.size - 1 : Nat) : Int) ∧ F' = F := by
 refine c44 ?_
 unfold b44
 refine ⟨_, rfl, (y.size : Int), by rw [add_mk, cell_eq hst]; rfl, ?_, rfl⟩
 rw [w64_eq (by omega) (by omega)]
 congr 1
 omega
theorem get_rd {g : Nat} {l : List Int} (hg : F g = some (.cells (u8s l).toArray 5 (0, 0))) (hl : l.length = 64) : RdS F ⟨some ⟨g, 0, none⟩, 64, 64⟩ 1 (u8s l) :=
 RdS.new hg (by simp only; rw [List.take_of_length_le (by simp [hl])]) (by simp [hl]) (Nat.le_refl _)
theorem get_cut {g : Nat} {l : List Int} (hg : F g = some (.cells (u8s l).toArray 5 (0, 0))) (hl : l.length = 64) (hb : Byt l) {o : Nat} (ho : o + 8 ≤ 64) :
  Spec prog 47 #[Sl.v (Sl.cut ⟨some ⟨g, 0, none⟩, 64, 64⟩ 1 o 64 64)] F fun r F' => r = .int .u64 (un8 ((l.drop o).take 8)) ∧ F' = F := by
 have h := (get_rd hg hl).cutu (a := o) (b := 64) (m := 64) (by omega) (Nat.le_refl _) (Nat.le_refl _)
 have hb2 : Byt ((l.drop o).take (64 - o)) := byt_take (byt_drop hb _) _
 have hl2 : 8 ≤ ((l.drop o).take (64 - o)).length := by rw [List.length_take, List.length_drop]; omega
 refine (get64_spec h hl2 hb2).mono ?_
 rintro v F' ⟨rfl, rfl⟩
 refine ⟨?_, rfl⟩
 rw [List.take_take, Nat.min_eq_left (by omega)]
theorem get_mark {g : Nat} {l : List Int} (hg : F g = some (.cells (u8s l).toArray 5 (0, 0))) (hl : l.length = 64) : F.cell (Addr.add ⟨g, 0, none⟩ (Int.toNat (0 : Int) * 1)) = some (.int .u8 (mk0 l)) := by
 rw [add_mk, cell_eq hg]
 cases l with
 | nil => simp at hl
 | cons a l => rfl
structure Rds (F K : PH) (d n st cm : Nat) (fd : Nat → Prop) (s : DS) (y : SS) : Prop where
 hd : DRep F K d fd n s
 hst : F st = some (.cells (scells d cm y) 84 (0, 0))
 up : Up s
 n1000 : n ≤ 1000
 byt : ∀ q, q < n → Byt (s.rd q) ∧ (s.rd q).length = 64
 sz : y.half * y.size + y.size ≤ n
 sz1 : 1 ≤ y.size
 num0 : 0 ≤ y.num
 num1 : y.num ≤ 9223372036854775807
theorem readlog_nil (h : Rds F K d n st cm fd s y) (hlog : LogAt s.rd (y.half * y.size + 1) (y.size - 1) y.num y.used []) :
  Spec prog 48 #[.pointer (some ⟨st, 0, none⟩)] F fun v F' => F.le F' ∧ v = .tuple #[Sl.v Sl.nil, .bool false, .int .i64 0] := by
 obtain ⟨hd, hst, hup, hn, hbyt, hsz, hsz1, hn0, hn1⟩ := h
 obtain ⟨hu, hno⟩ := hlog
 obtain ⟨p, hp⟩ : ∃ p, y.half * y.size = p := ⟨_, rfl⟩
 rw [hp] at hsz hno
 have ep : IntKind.i64.wrap ((y.half : Int) * (y.size : Int)) = (p : Int) := by
  rw [show (y.half : Int) * (y.size : Int) = ((y.half * y.size : Nat) : Int) by rw [Int.natCast_mul], hp, w64_eq (by omega) (by omega)]
 refine c48 ?_
 unfold b48
 refine ⟨_, rfl, (y.half : Int), by rw [add_mk, cell_eq hst]; rfl, (y.size : Int), by rw [add_mk, cell_eq hst]; rfl, (y.used : Int), by rw [add_mk, cell_eq hst]; rfl, (y.used : Int), by rw [add_mk, cell_eq hst]; rfl, ?_⟩
 refine (capacity_spec hst hsz1 (by omega)).mono ?_
 rintro v F1 ⟨rfl, ee⟩
 obtain rfl := ee.symm
 refine ⟨_, rfl, by rw [add_mk, cell_eq hst]; rfl, fun hge => ⟨le_refl' _, rfl⟩, fun hlt => ?_⟩
 have hlt' : y.used < y.size - 1 := by omega
 have eat : IntKind.i64.wrap ((IntKind.i64.wrap ((IntKind.i64.wrap ((y.half : Int) * (y.size : Int))) + (1 : Int))) + (y.used : Int)) = ((p + 1 + y.used : Nat) : Int) := by
  rw [ep, w64_eq (x := (p : Int) + 1) (by omega) (by omega), w64_eq (by omega) (by omega)]
  omega
 refine ⟨_, (cell_eq hst).trans rfl, ?_⟩
 rw [eat]
 refine (read_spec hd).mono ?_
 have hq : p + 1 + y.used < n := by omega
 have hread := hup.read hq
 rintro v F2 ⟨l2, h2⟩
 rcases h2 with ⟨e, _, h3, h4⟩ | ⟨g, l, hg, rfl, hgl, h3, hl⟩
 ·rw [hread] at h3
  injection h3 with _ h3
  exact absurd h3.symm h4
 rw [hread] at h3
 injection h3 with h3 _
 obtain rfl := h3
 have hb := (hbyt _ hq).1
 refine ⟨_, 0, rfl, fun h => absurd rfl h, fun _ => ?_⟩
 refine ⟨by simp only; omega, by simp only; omega, ?_⟩
 refine (get_cut hgl hl hb (o := 9) (by omega)).mono ?_
 rintro v F3 ⟨rfl, ee⟩
 obtain rfl := ee.symm
 refine ⟨_, rfl, _, rfl, by omega, by simp only; omega, _, get_mark hgl hl, fun hm => ⟨l2, rfl⟩, fun hm => ?_⟩
 have hst2 := l2 _ _ hst
 refine ⟨by simp only; omega, by simp only; omega, y.num, by rw [add_mk, cell_eq hst2]; rfl, ?_⟩
 refine (get_cut hgl hl hb (o := 1) (by omega)).mono ?_
 rintro v F3 ⟨rfl, ee⟩
 obtain rfl := ee.symm
 refine ⟨_, rfl, by rw [add_mk, cell_eq hst2]; rfl, get_mark hgl hl, fun hm2 => ⟨l2, rfl⟩, fun hm2 => ?_⟩
 exfalso
 refine hno hlt' ⟨?_, ?_⟩
 ·exact Classical.not_not.1 hm
 ·exact Classical.not_not.1 hm2
theorem fur_cut {p : List Int} {k : Nat} (h : 63 * k < p.length) : ((fur p k).drop 1).take (min 63 (p.length - 63 * k)) = (p.drop (63 * k)).take 63 := by
 have hl : ((p.drop (63 * k)).take 63).length = min 63 (p.length - 63 * k) := by rw [List.length_take, List.length_drop]
 unfold fur
 rw [List.drop_succ_cons, List.drop_zero, List.take_left' hl]
theorem readlog_cons (h : Rds F K d n st cm fd s y) {t : List Rc} {ts : List (List Rc)} (hlog : LogAt s.rd (y.half * y.size + 1) (y.size - 1) y.num y.used (t :: ts)) :
  Spec prog 48 #[.pointer (some ⟨st, 0, none⟩)] F fun v F' => F.le F' ∧ ∃ sl, v = .tuple #[Sl.v sl, .bool true, .int .i64 0] ∧ RdS F' sl 1 (u8s (payl t)) := by
 obtain ⟨hd, hst, hup, hn, hbyt, hsz, hsz1, hn0, hn1⟩ := h
 obtain ⟨hfit, hsec, hval, _⟩ := hlog
 obtain ⟨p, hp⟩ : ∃ p, y.half * y.size = p := ⟨_, rfl⟩
 rw [hp] at hsz hsec
 have hbl : (blks 1 y.num (payl t)).length = secs (plen t) := by rw [blks_len, plen_payl]
 have hse : secs (plen t) = 1 + (plen t + 62) / 63 := rfl
 have ep : IntKind.i64.wrap ((y.half : Int) * (y.size : Int)) = (p : Int) := by
  rw [show (y.half : Int) * (y.size : Int) = ((y.half * y.size : Nat) : Int) by rw [Int.natCast_mul], hp, w64_eq (by omega) (by omega)]
 refine c48 ?_
 unfold b48
 refine ⟨_, rfl, (y.half : Int), by rw [add_mk, cell_eq hst]; rfl, (y.size : Int), by rw [add_mk, cell_eq hst]; rfl, (y.used : Int), by rw [add_mk, cell_eq hst]; rfl, (y.used : Int), by rw [add_mk, cell_eq hst]; rfl, ?_⟩
 refine (capacity_spec hst hsz1 (by omega)).mono ?_
 rintro v F1 ⟨rfl, ee⟩
 obtain rfl := ee.symm
 refine ⟨_, rfl, by rw [add_mk, cell_eq hst]; rfl, fun hge => absurd hge (by omega), fun hlt => ?_⟩
 have eat : IntKind.i64.wrap ((IntKind.i64.wrap ((IntKind.i64.wrap ((y.half : Int) * (y.size : Int))) + (1 : Int))) + (y.used : Int)) = ((p + 1 + y.used : Nat) : Int) := by
  rw [ep, w64_eq (x := (p : Int) + 1) (by omega) (by omega), w64_eq (by omega) (by omega)]
  omega
 refine ⟨_, (cell_eq hst).trans rfl, ?_⟩
 rw [eat]
 refine (read_spec hd).mono ?_
 have hq : p + 1 + y.used < n := by omega
 have hread := hup.read hq
 rintro v F2 ⟨l2, h2⟩
 rcases h2 with ⟨e, _, h3, h4⟩ | ⟨g, l, hg, rfl, hgl, h3, hl⟩
 ·rw [hread] at h3
  injection h3 with _ h3
  exact absurd h3.symm h4
 rw [hread] at h3
 injection h3 with h3 _
 obtain rfl := h3
 have hb := (hbyt _ hq).1
 have hD0 : s.rd (p + 1 + y.used) = hdl 1 y.num (plen t) := by
  have := hsec 0 (by omega)
  rwa [Nat.add_zero, blks_zero] at this
 have hvl : un8 (((s.rd (p + 1 + y.used)).drop 9).take 8) = (plen t : Int) := by
  rw [hD0]
  exact vl_hdl (by omega) (by omega)
 have hnm : un8 (((s.rd (p + 1 + y.used)).drop 1).take 8) = y.num := by
  rw [hD0]
  exact nm_hdl hn0 (by omega)
 have hmk : mk0 (s.rd (p + 1 + y.used)) = 1 := by rw [hD0]; rfl
 refine ⟨_, 0, rfl, fun h => absurd rfl h, fun _ => ?_⟩
 refine ⟨by simp only; omega, by simp only; omega, ?_⟩
 refine (get_cut hgl hl hb (o := 9) (by omega)).mono ?_
 rintro v F3 ⟨rfl, ee⟩
 obtain rfl := ee.symm
 rw [hvl]
 refine ⟨_, rfl, _, rfl, by omega, by simp only; omega, _, get_mark hgl hl, fun hm => absurd hmk hm, fun hm => ?_⟩
 have hst2 := l2 _ _ hst
 refine ⟨by simp only; omega, by simp only; omega, y.num, by rw [add_mk, cell_eq hst2]; rfl, ?_⟩
 refine (get_cut hgl hl hb (o := 1) (by omega)).mono ?_
 rintro v F3 ⟨rfl, ee⟩
 obtain rfl := ee.symm
 rw [hnm]
 refine ⟨_, rfl, by rw [add_mk, cell_eq hst2]; rfl, get_mark hgl hl, fun hm2 => absurd rfl hm2, fun hm2 => ?_⟩
 refine ⟨(y.used : Int), by rw [add_mk, cell_eq hst2]; rfl, ?_⟩
 refine (capacity_spec hst2 hsz1 (by omega)).mono ?_
 rintro v F3 ⟨rfl, ee⟩
 obtain rfl := ee.symm
 have elim : IntKind.u64.wrap (IntKind.i64.wrap ((63 : Int) * (IntKind.i64.wrap ((IntKind.i64.wrap (((y.size - 1 : Nat) : Int) - (y.used : Int))) - (1 : Int))))) = 63 * (((y.size - 1 : Nat) : Int) - (y.used : Int) - 1) := by
  rw [w64_eq (x := ((y.size - 1 : Nat) : Int) - (y.used : Int)) (by omega) (by omega), w64_eq (x := ((y.size - 1 : Nat) : Int) - (y.used : Int) - 1) (by omega) (by omega), w64_eq (by omega) (by omega), wu64_eq (by omega) (by omega)]
 refine ⟨_, rfl, by rw [add_mk, cell_eq hst2]; rfl, by rw [add_mk, cell_eq hst2]; rfl, get_mark hgl hl, fun hgt => ?_, fun hle => ?_⟩
 ·rw [elim] at hgt
  omega
 have hpl : plen t ≤ 63000 := by omega
 refine runs_makeSlice underlying39 sz5 zr5 rfl (by omega) (by omega) (by omega) (by omega) ?_
 intro g0 hg0
 refine ⟨_, rfl, ?_⟩
 have hOstart : Ov 5 1 F2 (F2.set g0 (.cells (Builtin.zeroCells (Value.int .u8 0).cells (Int.toNat (plen t : Int))) 5)) ⟨some ⟨g0, 0, none⟩, Int.toNat (0 : Int), Int.toNat (plen t : Int)⟩ (u8s ((payl t).take (63 * 0))) := by
  refine ⟨le_set_fresh _ hg0, .inr ⟨g0, _, rfl, set_eq _ _ _, ?_, by simp, by simp, by simp⟩, fun a ha => by cases ha; exact hg0⟩
  rw [zc1 _ rfl]
  simp
 have ewt : IntKind.i64.wrap (plen t : Int) = (plen t : Int) := w64_eq (by omega) (by omega)
 refine ⟨fun m data i F' => ∃ (k : Nat) (G : PH), i = ((k + 1 : Nat) : Int) ∧ k ≤ (plen t + 62) / 63 ∧ m = (plen t + 62) / 63 - k ∧ F2.le G ∧ Ov 5 1 G F' data (u8s ((payl t).take (63 * k))), (plen t + 62) / 63, ⟨0, F2, rfl, by omega, rfl, le_refl' _, hOstart⟩, ?_⟩
 rintro _ data _ F3 ⟨k, G, rfl, hk, rfl, lG, hO⟩
 unfold b48L1
 rw [ewt]
 have hdl := hO.len
 rw [List.length_map, List.length_take, Nat.mul_one, plen_payl] at hdl
 refine (sectors_of (p := (plen t : Int)) (by omega) (by omega)).mono ?_
 rintro v F4 ⟨rfl, ee⟩
 obtain rfl := ee.symm
 refine ⟨_, rfl, fun hlt3 => ?_, fun hge3 => ?_⟩
 ·have hk' : k < (plen t + 62) / 63 := by omega
  have l3 := le_trans' lG hO.le
  have hst3 := l3 _ _ hst2
  have eat3 : IntKind.i64.wrap ((IntKind.i64.wrap ((IntKind.i64.wrap ((IntKind.i64.wrap ((y.half : Int) * (y.size : Int))) + (1 : Int))) + (y.used : Int))) + ((k + 1 : Nat) : Int)) = ((p + 1 + y.used + (k + 1) : Nat) : Int) := by
   rw [eat, w64_eq (by omega) (by omega)]
   omega
  refine ⟨_, (cell_eq hst3).trans rfl, ?_⟩
  rw [eat3]
  refine (read_spec (hd.le (le_trans' l2 l3))).mono ?_
  have hq3 : p + 1 + y.used + (k + 1) < n := by omega
  have hread3 := hup.read hq3
  rintro v F5 ⟨l5, h5⟩
  rcases h5 with ⟨e, _, h6, h7⟩ | ⟨g5, l, hg5, rfl, hgl5, h6, hl5⟩
  ·rw [hread3] at h6
   injection h6 with _ h6
   exact absurd h6.symm h7
  rw [hread3] at h6
  injection h6 with h6 _
  obtain rfl := h6
  have hD3 : s.rd (p + 1 + y.used + (k + 1)) = fur (payl t) k := by
   rw [hsec (k + 1) (by omega), blks_succ (by omega)]
  have hmin : IntKind.i64.wrap ((1 : Int) + (min (63 : Int) (IntKind.i64.wrap ((plen t : Int) - (data.len : Int))))) = ((1 + min 63 (plen t - 63 * k) : Nat) : Int) := by
   rw [w64_eq (x := (plen t : Int) - (data.len : Int)) (by omega) (by omega), w64_eq (by omega) (by omega)]
   omega
  refine ⟨_, 0, rfl, fun h => absurd rfl h, fun _ => ?_⟩
  rw [hmin, Int.toNat_natCast]
  refine ⟨by omega, by omega, by simp only; omega, ?_⟩
  have hcut := (get_rd hgl5 hl5).cutu (a := 1) (b := 1 + min 63 (plen t - 63 * k)) (m := 64) (by omega) (by simp only; omega) (by omega)
  rw [hD3, show 1 + min 63 (plen t - 63 * k) - 1 = min 63 ((payl t).length - 63 * k) by rw [plen_payl]; omega, fur_cut (by rw [plen_payl]; omega)] at hcut
  have hO5 := hO.up l5
  refine hO5.app (x := Sl.cut ⟨some ⟨g5, 0, none⟩, 64, 64⟩ 1 1 (1 + min 63 (plen t - 63 * k)) 64) (news := u8s (((payl t).drop (63 * k)).take 63)) underlying39 sz5 zr5 rfl (by decide) hcut st_u8s (by simp only [Sl.cut]; omega) (by simp only [Sl.cut]; omega) ?_
  intro s1 F6 hO6
  refine ⟨(plen t + 62) / 63 - (k + 1), by omega, k + 1, G, w64s (by omega), by omega, rfl, lG, ?_⟩
  have e4 : u8s ((payl t).take (63 * (k + 1))) = u8s ((payl t).take (63 * k)) ++ u8s (((payl t).drop (63 * k)).take 63) := by
   rw [u8s, u8s, u8s, ← List.map_append, show 63 * (k + 1) = 63 * k + 63 by omega, List.take_add]
  rw [e4]
  exact hO6
 ·have hk3 : (plen t + 62) / 63 = k := by omega
  unfold b48j1
  rw [List.take_of_length_le (by rw [plen_payl]; omega)] at hO
  exact ⟨le_trans' l2 (le_trans' lG hO.le), data, rfl, hO.own.rd⟩
end
end Go.Proofs.Ytelkfnmdnbbniaa
