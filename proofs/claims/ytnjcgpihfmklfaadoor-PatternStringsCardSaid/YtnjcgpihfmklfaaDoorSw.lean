/-
  PatternStrings: the law.
-/
import Derived.Test.YtnjcgpihfmklfaaDoorSm
import Derived.Test.YtnjcgpihfmklfaaDoorSt
import Derived.Test.YtnjcgpihfmklfaaDoorGr
import Derived.Test.YtnjcgpihfmklfaaDoorSp
import Derived.Test.YtnjcgpihfmklfaaDoorGL11
namespace Go.Proofs.YtnjcgpihfmklfaaDoor
open Go Go.Proofs.Tryd
set_option maxRecDepth 10000
theorem nflat_set : ∀ (l : List Nd) (k : Nat) (x : Nd), k < l.length → nflat (l.set k x) = (nflat l).take (k * 5) ++ x.cells ++ (nflat l).drop (k * 5 + 5)
 | [], _, _, h => absurd h (by simp)
 | y :: l, 0, x, _ => by simp [nflat, Nd.cells]
 | y :: l, k + 1, x, h => by
  have ih := nflat_set l k x (by simpa using h)
  have e : nflat (y :: l) = y.cells ++ nflat l := by simp [nflat]
  have hl : y.cells.length = 5 := rfl
  rw [List.set_cons_succ, e, show nflat (y :: l.set k x) = y.cells ++ nflat (l.set k x) by simp [nflat], ih, show (k + 1) * 5 = 5 + k * 5 by omega, show 5 + k * 5 + 5 = 5 + (k * 5 + 5) by omega]
  rw [← hl, List.take_length_add_append, List.drop_length_add_append]
  simp only [List.append_assoc]
theorem nflat_set1 {l : List Nd} {k j : Nat} {x y : Nd} {v : Value} (hx : l[k]? = some x) (hj : j < 5) (hy : x.cells.set j v = y.cells) : (nflat l).set (k * 5 + j) v = nflat (l.set k y) := by
 obtain ⟨hk, rfl⟩ := List.getElem?_eq_some_iff.1 hx
 have h5 : l[k].cells.length = 5 := rfl
 have hg := nflat_get l k hk
 have hlen := nflat_length l
 rw [nflat_set l k y hk]
 have e1 : nflat l = (nflat l).take (k * 5) ++ l[k].cells ++ (nflat l).drop (k * 5 + 5) := by
  rw [← hg, ← List.drop_drop, List.append_assoc, List.take_append_drop, List.take_append_drop]
 have ht : ((nflat l).take (k * 5)).length = k * 5 := by rw [List.length_take]; omega
 conv => lhs; rw [e1]
 rw [List.append_assoc, List.set_append, if_neg (by omega), ht, Nat.add_sub_cancel_left, List.set_append, if_pos (by rw [h5]; exact hj), hy, List.append_assoc]
section
variable {G F : PH} {s : Sl} {l : List Nd}
theorem OwN.row (h : OwN G F s l) {k : Nat} (hk : k < l.length) (x : Nd) {K : PH → Prop} (kk : ∀ F', OwN G F' s (l.set k x) → K F') : ∃ a : Addr, s.base = some a ∧ x.arr.size = 5 ∧ (∀ v ∈ x.arr.toList, storable v) ∧
  ∃ c e, F (Addr.add a (k * 5)).block = some (.cells c e (0, 0)) ∧ (Addr.add a (k * 5)).spot = none ∧ (Addr.add a (k * 5)).off + 5 ≤ c.size ∧
   atF (F.set (Addr.add a (k * 5)).block (.cells (wr c (Addr.add a (k * 5)).off x.arr.toList) e)) K := by
 have hlen := h.own.rd.nlen
 rcases h.own with ⟨rfl, _⟩ | ⟨b, cur, h1, h2, h3, h4, h5, h6⟩
 ·simp [Sl.nil] at hlen; omega
 ·have ea : (Addr.mk b 0 none).add (k * 5) = ⟨b, k * 5, none⟩ := by rw [add_off, Nat.zero_add]
  have hfl := nflat_length l
  refine ⟨_, h1, rfl, st_narr x, ?_⟩
  rw [ea]
  refine ⟨cur, 50, h2, rfl, by simp only; omega, kk _ ?_⟩
  refine ⟨fun y o hy => (set_ne _ _ (fun e => by rw [e, h.oz _ h1] at hy; cases hy)).trans (h.le y o hy), .inr ⟨b, _, h1, set_eq _ _ _, by rw [wr_size]; exact h3, h4, by rw [nflat_length, List.length_set]; omega, ?_⟩, h.oz⟩
  have e := wr_list x.arr.toList cur.toList (k * 5) (by simp; omega)
  rw [Array.toArray_toList] at e
  show (wr cur (k * 5) x.arr.toList).toList.take (s.len * 5) = _
  rw [e, nflat_set l k x hk, ← h6]
  show (cur.toList.take (k * 5) ++ x.cells ++ cur.toList.drop (k * 5 + 5)).take (s.len * 5) = _
  have hc5 : x.cells.length = 5 := rfl
  have hct : cur.toList.length = s.cap * 5 := by simpa using h3
  rw [List.take_append, List.take_of_length_le (by rw [List.length_append, List.length_take]; omega), List.take_take, List.drop_take, Nat.min_eq_left (by omega)]
  congr 2
  rw [List.length_append, List.length_take, hc5]
  omega
theorem OwN.put1 (h : OwN G F s l) {k j : Nat} {x y : Nd} {v : Value} (hx : l[k]? = some x) (hj : j < 5) (hy : x.cells.set j v = y.cells) {K : PH → Prop} (kk : ∀ F', OwN G F' s (l.set k y) → K F') : ∃ a : Addr, s.base = some a ∧
  ∃ c e, F (Addr.add (Addr.add a (k * 5)) j).block = some (.cells c e (0, 0)) ∧ (Addr.add (Addr.add a (k * 5)) j).spot = none ∧ (Addr.add (Addr.add a (k * 5)) j).off < c.size ∧
   atF (F.set (Addr.add (Addr.add a (k * 5)) j).block (.cells (c.setIfInBounds (Addr.add (Addr.add a (k * 5)) j).off v) e)) K := by
 have hlen := h.own.rd.nlen
 have hk := (List.getElem?_eq_some_iff.1 hx).1
 rcases h.own with ⟨rfl, _⟩ | ⟨b, cur, h1, h2, h3, h4, h5, h6⟩
 ·simp [Sl.nil] at hlen; omega
 ·have ea : ((Addr.mk b 0 none).add (k * 5)).add j = ⟨b, k * 5 + j, none⟩ := by rw [add_off, add_off, Nat.zero_add]
  have hfl := nflat_length l
  refine ⟨_, h1, ?_⟩
  rw [ea]
  refine ⟨cur, 50, h2, rfl, by simp only; omega, kk _ ?_⟩
  refine ⟨fun y o hy => (set_ne _ _ (fun e => by rw [e, h.oz _ h1] at hy; cases hy)).trans (h.le y o hy), .inr ⟨b, _, h1, set_eq _ _ _, by simpa using h3, h4, by rw [nflat_length, List.length_set]; omega, ?_⟩, h.oz⟩
  rw [← nflat_set1 hx hj hy, ← h6, Array.toList_setIfInBounds, List.take_set]
theorem exch_spec (k i : Int) (hi : 0 ≤ i) (hi2 : i ≤ 1000000) : Spec prog 35 #[vi k, vi i] F fun r F' => r = vi (exI i k) ∧ F' = F := by
 refine c35 ?_
 unfold b35
 rw [w64_eq (x := i + 1) (by omega) (by omega)]
 unfold exI
 refine ⟨fun h => ⟨by rw [if_pos h], rfl⟩, fun h => ⟨fun h2 => ⟨by rw [if_neg h, if_pos h2], rfl⟩, fun h2 => ⟨by rw [if_neg h, if_neg h2], rfl⟩⟩⟩
end
section
variable {F0 F : PH} {A B : List Nd} {x y : Nd} {i : Nat}
def mvL (i : Nat) (A : List Nd) (x y : Nd) (B : List Nd) (w : Nat) : List Nd := A ++ [y, x] ++ ((B.take w).map (renN i) ++ B.drop w)
theorem mvL_get (hA : A.length = i) {w : Nat} {z : Nd} (hz : B[w]? = some z) : (mvL i A x y B w)[i + 2 + w]? = some z := by
 have hw := (List.getElem?_eq_some_iff.1 hz).1
 have h1 : (A ++ [y, x]).length = i + 2 := by simp [hA]
 have h2 : ((B.take w).map (renN i)).length = w := by rw [List.length_map, List.length_take]; omega
 unfold mvL
 rw [List.getElem?_append_right (by omega), h1, Nat.add_sub_cancel_left, List.getElem?_append_right (by omega), h2, Nat.sub_self, List.getElem?_drop, Nat.add_zero]
 exact hz
theorem mvL_set (hA : A.length = i) {w : Nat} {z : Nd} (hz : B[w]? = some z) : (mvL i A x y B w).set (i + 2 + w) (renN i z) = mvL i A x y B (w + 1) := by
 have hw := (List.getElem?_eq_some_iff.1 hz).1
 have h1 : (A ++ [y, x]).length = i + 2 := by simp [hA]
 have h2 : ((B.take w).map (renN i)).length = w := by rw [List.length_map, List.length_take]; omega
 have h3 : B.drop w = z :: B.drop (w + 1) := by rw [List.drop_eq_getElem_cons hw, (List.getElem?_eq_some_iff.1 hz).2]
 unfold mvL
 rw [List.set_append, if_neg (by omega), h1, Nat.add_sub_cancel_left, List.set_append, if_neg (by omega), h2, Nat.sub_self, h3, List.set_cons_zero, List.take_add_one, hz]
 simp
theorem mvL_all : mvL i A x y B B.length = swL i A x y B := by simp [mvL, swL]
def vI1 (F0 : PH) (i : Nat) (A : List Nd) (x y : Nd) (B : List Nd) (s : Sl) : Nat → Int → PH → Prop := fun m k F' => ∃ w : Nat, k = ((i + 2 + w : Nat) : Int) ∧ w ≤ B.length ∧ m = B.length - w ∧ OwN F0 F' s (mvL i A x y B w)
theorem nd_cell {G F : PH} {s : Sl} {l : List Nd} (h : OwN G F s l) {k : Nat} {z : Nd} (hz : l[k]? = some z) : ∃ a, s.base = some a ∧ F.cell (a.add (k * 5)) = some (vi z.k) ∧ F.cell ((a.add (k * 5)).add 3) = some (vi z.a) ∧ F.cell ((a.add (k * 5)).add 4) = some (vi z.b) := by
 obtain ⟨a, h1, h2⟩ := rdn h.own.rd hz
 exact ⟨a, h1, by have := h2 0 (by simp); simpa [Addr.add] using this, by have := h2 3 (by simp); simpa using this, by have := h2 4 (by simp); simpa using this⟩
theorem law11_L1 {s v19 : Sl} {sw : Int} (hA : A.length = i) (hi : i + 2 + B.length ≤ 1000) (hsw : Int.tmod (IntKind.i64.wrap sw) (v19.len : Int) = (i : Int)) {m : Nat} {k : Int} {R : Value → PH → Prop} (hR : ∀ F', OwN F0 F' s (swL i A x y B) → b11j2 true v19 s R F') (hI : vI1 F0 i A x y B s m k F) :
  b11L1 (fun y0 F' => ∃ m', m' < m ∧ vI1 F0 i A x y B s m' y0 F') true v19 s sw R k F := by
 obtain ⟨w, rfl, hw, rfl, hO⟩ := hI
 have hlen : s.len = i + 2 + B.length := by rw [hO.own.rd.nlen]; simp [mvL, hA]; omega
 unfold b11L1
 refine ⟨fun hlt => ?_, fun hge => ?_⟩
 ·have hw' : w < B.length := by omega
  have hz : B[w]? = some B[w] := List.getElem?_eq_getElem hw'
  generalize B[w] = z at hz
  have hg := mvL_get (x := x) (y := y) hA hz
  have hs := mvL_set (x := x) (y := y) hA hz
  have j3 : ∀ {F' : PH}, OwN F0 F' s (mvL i A x y B (w + 1)) → b11j3 (fun y0 F' => ∃ m', m' < B.length - w ∧ vI1 F0 i A x y B s m' y0 F') true v19 s sw ((i + 2 + w : Nat) : Int) R F' := fun h => by
   unfold b11j3
   exact ⟨B.length - (w + 1), by omega, w + 1, w64s (by omega), by omega, rfl, h⟩
  generalize mvL i A x y B w = l at *
  generalize mvL i A x y B (w + 1) = l' at *
  have hkl := (List.getElem?_eq_some_iff.1 hg).1
  have j4 : ∀ {F' : PH} (z1 : Nd), z1.k = z.k → z1.b = z.b → (if z.k = 2 ∨ z.k = 3 then (⟨z1.k, z1.lo, z1.hi, z1.a, exI i z1.b⟩ : Nd) else z1) = renN i z → OwN F0 F' s (l.set (i + 2 + w) z1) → b11j4 (fun y0 F' => ∃ m', m' < B.length - w ∧ vI1 F0 i A x y B s m' y0 F') true v19 s sw ((i + 2 + w : Nat) : Int) R F' := fun {F'} z1 e1 e2 e3 h => by
   have hg1 : (l.set (i + 2 + w) z1)[i + 2 + w]? = some z1 := by rw [List.getElem?_set_self hkl]
   obtain ⟨a, ha, c0, c3, c4⟩ := nd_cell h hg1
   have j5 : ∀ q : Bool, q = decide (z.k = 2 ∨ z.k = 3) → b11j5 (fun y0 F' => ∃ m', m' < B.length - w ∧ vI1 F0 i A x y B s m' y0 F') true v19 s sw ((i + 2 + w : Nat) : Int) q R F' := fun q hq => by
    unfold b11j5
    rw [hsw, Int.toNat_natCast]
    refine ⟨fun h1 => ?_, fun h1 => ?_⟩
    ·rw [if_pos (of_decide_eq_true (hq.symm.trans h1))] at e3
     refine ⟨a, ha, by omega, by omega, z1.b, c4, ?_⟩
     refine (exch_spec z1.b (i : Int) (by omega) (by omega)).mono ?_
     rintro _ _ ⟨rfl, rfl⟩
     obtain ⟨a', ha', hput⟩ := h.put1 (j := 4) hg1 (by decide) (y := ⟨z1.k, z1.lo, z1.hi, z1.a, exI i z1.b⟩) (v := vi (exI i z1.b)) rfl (K := b11j3 (fun y0 F' => ∃ m', m' < B.length - w ∧ vI1 F0 i A x y B s m' y0 F') true v19 s sw ((i + 2 + w : Nat) : Int) R) fun F'' h'' => by
      rw [e3, List.set_set, hs] at h''
      exact j3 h''
     exact ⟨_, rfl, a', ha', by omega, by omega, hput⟩
    ·rw [if_neg (of_decide_eq_false (hq.symm.trans h1))] at e3
     rw [e3, hs] at h
     exact j3 h
   unfold b11j4
   refine ⟨a, ha, by omega, by omega, z1.k, by rw [Int.toNat_natCast]; exact c0, fun h2 => j5 true ?_, fun h2 => ⟨a, ha, by omega, by omega, z1.k, by rw [Int.toNat_natCast]; exact c0, j5 _ ?_⟩⟩
   ·rw [decide_eq_true (Or.inl (by omega) : z.k = 2 ∨ z.k = 3)]
   ·rw [Bool.eq_iff_iff, decide_eq_true_eq, decide_eq_true_eq]
    omega
  obtain ⟨a, ha, c0, c3, c4⟩ := nd_cell hO hg
  refine ⟨a, ha, by omega, by omega, z.k, by rw [Int.toNat_natCast]; exact c0, fun h2 => ?_, fun h2 => ?_⟩
  ·rw [hsw, Int.toNat_natCast]
   refine ⟨a, ha, by omega, by omega, z.a, c3, ?_⟩
   refine (exch_spec z.a (i : Int) (by omega) (by omega)).mono ?_
   rintro _ _ ⟨rfl, rfl⟩
   obtain ⟨a', ha', hput⟩ := hO.put1 (j := 3) hg (by decide) (y := ⟨z.k, z.lo, z.hi, exI i z.a, z.b⟩) (v := vi (exI i z.a)) rfl (K := b11j4 (fun y0 F' => ∃ m', m' < B.length - w ∧ vI1 F0 i A x y B s m' y0 F') true v19 s sw ((i + 2 + w : Nat) : Int) R) fun F'' h'' =>
    j4 ⟨z.k, z.lo, z.hi, exI i z.a, z.b⟩ rfl rfl (by
     by_cases hk : z.k = 2 ∨ z.k = 3
     ·simp only [renN, if_pos h2, if_pos hk]
     ·simp only [renN, if_pos h2, if_neg hk]) h''
   exact ⟨_, rfl, a', ha', by omega, by omega, hput⟩
  ·refine j4 z rfl rfl (by unfold renN; rw [if_neg h2, if_neg (by omega), if_neg (by omega)]) ?_
   have : l.set (i + 2 + w) z = l := by
    obtain ⟨_, rfl⟩ := List.getElem?_eq_some_iff.1 hg
    exact List.set_getElem_self _
   rw [this]
   exact hO
 ·have hw' : w = B.length := by omega
  subst hw'
  rw [mvL_all] at hO
  exact hR _ hO
def usP (z : Nd) (i : Int) : Prop := (z.k = 4 ∧ z.a = i) ∨ ((z.k = 2 ∨ z.k = 3) ∧ (z.a = i ∨ z.b = i))
theorem uses_spec (F : PH) (z : Nd) (j : Int) : Spec prog 34 #[.agg z.arr, vi j] F fun r F' => (∃ q : Bool, r = .bool q ∧ (q = true ↔ usP z j)) ∧ F.le F' := by
 refine c34 ?_
 unfold b34
 intro b hb
 refine atI ?_
 have l1 := le_set_fresh (.cells z.arr 50) hb
 have q1 := set_eq F b (.cells z.arr 50)
 generalize F.set b (.cells z.arr 50) = F1 at *
 have c0 : F1.cell (Addr.mk b 0 none) = some (vi z.k) := by rw [cell_eq q1]; rfl
 have c3 : F1.cell (Addr.mk b 3 none) = some (vi z.a) := by rw [cell_eq q1]; rfl
 have c4 : F1.cell (Addr.mk b 4 none) = some (vi z.b) := by rw [cell_eq q1]; rfl
 have j1 : ∀ q : Bool, q = decide (z.k = 2 ∨ z.k = 3) → b34j1 j b q (fun r F' => (∃ q : Bool, r = .bool q ∧ (q = true ↔ usP z j)) ∧ F.le F') F1 := fun q hq => by
  unfold b34j1
  refine ⟨z.k, c0, fun h4 => ⟨z.a, c3, fun ha => ⟨⟨true, rfl, fun _ => .inl ⟨h4, ha⟩, fun _ => rfl⟩, l1⟩, fun ha => ⟨fun h => ?_, fun h => ⟨⟨false, rfl, fun h => (by cases h), fun hu => ?_⟩, l1⟩⟩⟩, fun h4 => ⟨fun h => ?_, fun h => ⟨⟨false, rfl, fun h => (by cases h), fun hu => ?_⟩, l1⟩⟩⟩
  ·have := of_decide_eq_true (hq.symm.trans h)
   omega
  ·rcases hu with ⟨_, e⟩ | ⟨hk, _⟩
   ·exact absurd e ha
   ·omega
  ·have hk := of_decide_eq_true (hq.symm.trans h)
   refine ⟨z.a, c3, fun ha => ⟨⟨true, rfl, fun _ => .inr ⟨hk, .inl ha⟩, fun _ => rfl⟩, l1⟩, fun ha => ⟨z.b, c4, ⟨_, rfl, ?_⟩, l1⟩⟩
   rw [decide_eq_true_eq]
   exact ⟨fun hb => .inr ⟨hk, .inr hb⟩, fun hu => by
    rcases hu with ⟨e, _⟩ | ⟨_, e | e⟩
    ·exact absurd e h4
    ·exact absurd e ha
    ·exact e⟩
  ·have hk := of_decide_eq_false (hq.symm.trans h)
   rcases hu with ⟨e, _⟩ | ⟨e, _⟩
   ·exact absurd e h4
   ·exact absurd e hk
 refine ⟨z.k, c0, fun h2 => j1 true (by rw [decide_eq_true (Or.inl h2 : z.k = 2 ∨ z.k = 3)]), fun h2 => ⟨z.k, c0, j1 _ ?_⟩⟩
 rw [Bool.eq_iff_iff, decide_eq_true_eq, decide_eq_true_eq]
 omega
end
section
variable {F0 F : PH}
theorem law11_j2 (hT : Tab F) (l0 : F0.le F) {s1 s2 : Sl} {t : Pat} {l2 : List Nd} (hb : t.byt) (hs : t.size ≤ 40) (r1 : RdS F s1 5 (nflat (t.nodes 0))) (r2 : RdS F s2 5 (nflat l2)) (hg : GoodL l2) (hl : l2.length ≤ 512) (hp : (treeL l2).pat = t) : b11j2 true s1 s2 (fun r F' => r = .bool true ∧ F0.le F') F := by
 unfold b11j2
 refine (print_made hT r1 hb (by omega)).mono ?_
 rintro _ F1 ⟨⟨d, rfl, hd, hdl⟩, l1⟩
 replace r1 := r1.le l1
 replace l0 := le_trans' l0 l1
 refine ⟨d, 0, rfl, ?_⟩
 have hc : chkP l2 = 0 := by unfold chkP; rw [if_neg (by omega), if_pos hg]
 refine (print_spec (r2.le l1)).mono ?_
 have e2 : printR l2 = (t.pr, 0) := by unfold printR; rw [hc, if_neg (by decide), hp]
 rw [e2]
 rintro _ F2 ⟨⟨_, rfl, d2, rfl, hd2⟩, l2'⟩
 replace hd2 : bs d2 = t.pr := hd2
 obtain rfl : d2 = d := bs_inj (hd2.trans hd.symm)
 replace r1 := r1.le l2'
 replace l0 := le_trans' l0 l2'
 refine ⟨d2, 0, rfl, ?_⟩
 refine (parse_spec F2 d2).mono ?_
 rw [parse_pr hb hd (by omega) (by omega)]
 rintro _ F3 ⟨⟨_, rfl, s3, rfl, r3⟩, l3⟩
 replace r3 : RdS F3 s3 5 (nflat (t.nodes 0)) := r3
 refine ⟨s3, 0, rfl, fun _ => ⟨fun _ => ⟨fun _ => ⟨fun _ => ?_, fun h => by rw [beq_self_eq_true] at h; cases h⟩, fun h => absurd rfl h⟩, fun h => absurd rfl h⟩, fun h => absurd rfl h⟩
 refine (same_spec (by rw [Pat.nodes_length]; omega) r3 (r1.le l3)).mono ?_
 rintro _ F4 ⟨rfl, rfl⟩
 rw [decide_eq_true rfl]
 exact ⟨true, rfl, fun _ => ⟨rfl, le_trans' l0 l3⟩, fun h => (by cases h)⟩
theorem OwN.row2 {G : PH} {s : Sl} {l : List Nd} (h : OwN G F s l) {k : Nat} (hk : k < l.length) (x : Nd) {K : PH → Prop} (kk : ∀ F', OwN G F' s (l.set k x) → K F') : ∃ a : Addr, s.base = some a ∧ 0 ≤ (k : Int) ∧ (k : Int) < (s.len : Int) ∧ x.arr.size = 5 ∧ (∀ v ∈ x.arr.toList, storable v) ∧
  ∃ c e, F (Addr.add a (k * 5)).block = some (.cells c e (0, 0)) ∧ (Addr.add a (k * 5)).spot = none ∧ (Addr.add a (k * 5)).off + 5 ≤ c.size ∧
   atF (F.set (Addr.add a (k * 5)).block (.cells (wr c (Addr.add a (k * 5)).off x.arr.toList) e)) K := by
 obtain ⟨a, ha, h1⟩ := h.row hk x kk
 have := h.own.rd.nlen
 exact ⟨a, ha, by omega, by omega, h1⟩
theorem us_usP {z : Nd} {k : Nat} (hz : okN k z) {j : Int} (h : ¬ usP z j) : ∀ a ∈ us z, a ≠ j := by
 intro a ha e
 subst e
 rcases ar_kinds hz.1 with q | q | q | q | q
 ·rw [us_zero (.inl q)] at ha; cases ha
 ·rw [us_zero (.inr q)] at ha; cases ha
 ·rw [us_two (.inl q)] at ha
  simp only [List.mem_cons, List.not_mem_nil, or_false] at ha
  exact h (.inr ⟨.inl q, ha.elim (fun e => .inr e.symm) fun e => .inl e.symm⟩)
 ·rw [us_two (.inr q)] at ha
  simp only [List.mem_cons, List.not_mem_nil, or_false] at ha
  exact h (.inr ⟨.inr q, ha.elim (fun e => .inr e.symm) fun e => .inl e.symm⟩)
 ·rw [us_one q] at ha
  simp only [List.mem_cons, List.not_mem_nil, or_false] at ha
  exact h (.inl ⟨q, ha.symm⟩)
theorem law11_j1 (hT : Tab F0) {G : PH} (lG0 : F0.le G) {s1 s2 : Sl} {t : Pat} (hb : t.byt) (hs : t.size ≤ 40) (r1 : RdS G s1 5 (nflat (t.nodes 0))) (h2 : OwN G F s2 (t.nodes 0)) {sw : Int} {i : Nat} (hi : i < t.size) (hsw : Int.tmod (IntKind.i64.wrap sw) (s1.len : Int) = (i : Int)) (fr : Bool)
  (hfr : fr = true → i + 1 < t.size - 1 ∧ ∀ z, (t.nodes 0)[i + 1]? = some z → ¬ usP z i) : b11j1 true s1 s2 sw fr (fun r F' => r = .bool true ∧ F0.le F') F := by
 have hn := t.nodes_length 0
 have hl1 : s1.len = t.size := by rw [r1.nlen, hn]
 have hl2 : s2.len = t.size := by rw [h2.own.rd.nlen, hn]
 unfold b11j1
 rw [hsw, w64s (by omega), w64_eq (x := (i : Int) + 2) (by omega) (by omega), Int.toNat_natCast, Int.toNat_natCast]
 refine ⟨fun hf => ?_, fun hf => law11_j2 ((hT.le lG0).le h2.le) (le_trans' lG0 h2.le) hb hs (r1.le h2.le) h2.own.rd (nodes_good hb) (by omega) (nodes_pat hb)⟩
 obtain ⟨hi1, hno⟩ := hfr hf
 have hx : (t.nodes 0)[i]? = some (t.nodes 0)[i] := List.getElem?_eq_getElem (by omega)
 have hy : (t.nodes 0)[i + 1]? = some (t.nodes 0)[i + 1] := List.getElem?_eq_getElem (by omega)
 have hsplit : t.nodes 0 = (t.nodes 0).take i ++ [(t.nodes 0)[i], (t.nodes 0)[i + 1]] ++ (t.nodes 0).drop (i + 2) := by
  rw [List.append_assoc]
  conv => lhs; rw [← List.take_append_drop i (t.nodes 0)]
  rw [List.drop_eq_getElem_cons (by omega), List.drop_eq_getElem_cons (by omega)]
  rfl
 have hAl : ((t.nodes 0).take i).length = i := by rw [List.length_take]; omega
 have hBl : ((t.nodes 0).drop (i + 2)).length = t.size - (i + 2) := by rw [List.length_drop, hn]
 generalize (t.nodes 0)[i] = x at *
 generalize (t.nodes 0)[i + 1] = y at *
 obtain ⟨a, ha, hra⟩ := rdn r1 hy
 obtain ⟨a', ha', hra'⟩ := rdn r1 hx
 have hsets : ((t.nodes 0).set i y).set (i + 1) x = mvL i ((t.nodes 0).take i) x y ((t.nodes 0).drop (i + 2)) 0 := by
  conv => lhs; rw [hsplit]
  unfold mvL
  rw [List.append_assoc, List.set_append, if_neg (by omega), hAl, Nat.sub_self, List.set_append, if_neg (by omega), hAl, show i + 1 - i = 1 by omega]
  simp
 have hS : Swp ((t.nodes 0).take i) x y ((t.nodes 0).drop (i + 2)) i := ⟨by rw [← hsplit]; exact nodes_good hb, hAl, fun e => by rw [e] at hBl; simp at hBl; omega, us_usP ((nodes_good hb).ok _ _ hy) (hno y hy)⟩
 have hpat := hS.pat
 rw [← hsplit, nodes_pat hb] at hpat
 have hg' := hS.good'
 have hlen' : (swL i ((t.nodes 0).take i) x y ((t.nodes 0).drop (i + 2))).length ≤ 512 := by simp [swL]; omega
 have hR : ∀ F', OwN G F' s2 (swL i ((t.nodes 0).take i) x y ((t.nodes 0).drop (i + 2))) → b11j2 true s1 s2 (fun r F' => r = .bool true ∧ F0.le F') F' := fun F' h => law11_j2 ((hT.le lG0).le h.le) (le_trans' lG0 h.le) hb hs (r1.le h.le) h.own.rd hg' hlen' hpat
 refine ⟨a, ha, by omega, by omega, y.arr, rfl, fun j hj => le_cell h2.le (hra j hj), ?_⟩
 refine h2.row2 (k := i) (by omega) y fun F1 h1 => ?_
 refine ⟨a', ha', by omega, by omega, x.arr, rfl, fun j hj => le_cell h1.le (hra' j hj), ?_⟩
 refine h1.row2 (k := i + 1) (by rw [List.length_set]; omega) x fun F2 h2 => ?_
 rw [hsets] at h2
 exact ⟨vI1 G i _ x y _ s2, ((t.nodes 0).drop (i + 2)).length, ⟨0, rfl, by omega, by omega, h2⟩, fun m k F3 hI => law11_L1 hAl (by omega) hsw hR hI⟩
theorem law11_b11 (hT : Tab F) {sl : Sl} {zs : List Int} (h1 : RdS F sl 1 (zs.map (Value.int .u8))) (hz1 : ∀ z ∈ zs, 0 ≤ z ∧ z ≤ 255) (hn1 : zs.length ≤ 9000000000000000) {sw : Int} (hsw : 0 ≤ sw ∧ sw ≤ 255) : b11 sl sw (fun r F' => r = .bool true ∧ F.le F') F := by
 unfold b11
 refine (sanity_spec hT).mono ?_
 rintro _ F1 ⟨rfl, l1⟩
 refine ⟨true, rfl, ?_⟩
 refine (made_spec (by decide) (h1.le l1) hz1 hn1).mono ?_
 rintro _ F2 ⟨hm, l2⟩
 obtain ⟨s1, t, rfl, hb, hz, r1, _⟩ := hm.rd
 replace l2 := le_trans' l1 l2
 refine ⟨s1, rfl, ?_⟩
 have hn := t.nodes_length 0
 have hp := t.size_pos
 have hl1 : s1.len = t.size := by rw [r1.nlen, hn]
 intro b hb20
 refine atI ?_
 have l3 := le_set_fresh (.cells #[] 50) hb20
 have q3 := set_eq F2 b (.cells #[] 50)
 have o3 : OwnS (F2.set b (.cells #[] 50)) 50 5 ⟨some ⟨b, 0, none⟩, 0, 0⟩ [] := .inr ⟨b, #[], rfl, q3, rfl, Nat.le_refl _, rfl, rfl⟩
 generalize F2.set b (.cells #[] 50) = F3 at *
 refine own_app (F0 := F2) underlying25 sz50' zr50' rfl (by decide) l3 o3 (fun a ha => by cases ha; exact hb20) (r1.le l3) (st_nflat _) (by simp only; omega) (by simp only; omega) ?_
 intro s2 F4 l4 o4 _ hnew _ _
 rw [List.nil_append] at o4
 have hO : OwN F2 F4 s2 (t.nodes 0) := ⟨l4, o4, hnew⟩
 refine ⟨s2, rfl, by omega, ?_⟩
 obtain ⟨v, rfl⟩ := Int.eq_ofNat_of_zero_le hsw.1
 have e0 : IntKind.i64.wrap ((v : Nat) : Int) = v := w64_eq (by omega) (by omega)
 have hmod : Int.tmod (IntKind.i64.wrap ((v : Nat) : Int)) (s1.len : Int) = ((v % t.size : Nat) : Int) := by rw [e0, hl1]; rfl
 have hi : v % t.size < t.size := Nat.mod_lt _ hp
 have j1 := fun {F5 : PH} (h : OwN F2 F5 s2 (t.nodes 0)) (fr : Bool) (hfr : _) => law11_j1 hT l2 hb hz r1 h hi hmod fr hfr
 rw [hmod]
 generalize v % t.size = i at *
 rw [w64s (by omega), w64_eq (x := (s1.len : Int) - 1) (by omega) (by omega)]
 refine ⟨fun hlt => ?_, fun hge => j1 hO false fun h => (by cases h)⟩
 have hy : (t.nodes 0)[i + 1]? = some (t.nodes 0)[i + 1] := List.getElem?_eq_getElem (by omega)
 generalize (t.nodes 0)[i + 1] = y at hy
 obtain ⟨a, ha, hra⟩ := rdn r1 hy
 refine ⟨a, ha, by omega, by omega, y.arr, rfl, by rw [Int.toNat_natCast]; exact fun j hj => le_cell l4 (hra j hj), ?_⟩
 refine ((uses_spec F2 y i).upon l4).mono ?_
 rintro _ F5 ⟨G, ⟨⟨q, rfl, hq⟩, lG⟩, lF, hk⟩
 have hO5 : OwN F2 F5 s2 (t.nodes 0) := ⟨le_trans' lG lF, hO.own.keep fun c hc => by
  obtain ⟨o, ho⟩ := hO.own.some hc
  rw [(hk _ _ (hnew _ hc) ho).1, ho], hnew⟩
 refine ⟨q, rfl, j1 hO5 (!q) fun h => ⟨by omega, fun z hz => ?_⟩⟩
 rw [hy] at hz
 cases hz
 rw [← hq]
 simpa using h
theorem law11_spec (hT : Tab F) {sl : Sl} {zs : List Int} (h1 : RdS F sl 1 (zs.map (Value.int .u8))) (hz1 : ∀ z ∈ zs, 0 ≤ z ∧ z ≤ 255) (hn1 : zs.length ≤ 9000000000000000) {sw : Int} (hsw : 0 ≤ sw ∧ sw ≤ 255) : Spec prog 11 #[sl.v, .int .u8 sw] F fun r F' => r = .bool true ∧ F.le F' := c11 (law11_b11 hT h1 hz1 hn1 hsw)
end
end Go.Proofs.YtnjcgpihfmklfaaDoor
