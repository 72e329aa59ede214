/-
  The reference's Common and Shortest; PatternCommonMatchesReference.
-/
import Derived.Test.YtnjcgpihfmklfaaDoorTl
import Derived.Test.YtnjcgpihfmklfaaDoorTf
import Derived.Test.YtnjcgpihfmklfaaDoorSk
import Derived.Test.YtnjcgpihfmklfaaDoorGL6
namespace Go.Proofs.YtnjcgpihfmklfaaDoor
open Go Go.Proofs.Tryd
set_option maxRecDepth 10000
section
variable {l : List Nd} {T : Lt} {nT : List Nat}
theorem now_byte (hG : GoodL l) : ∀ (w : List Nat) {j : Nat}, nowP l T w j → ∀ c ∈ w, c < 256 := by
 intro w
 refine snoc_ind (P := fun w => ∀ {j : Nat}, nowP l T w j → ∀ c ∈ w, c < 256) (fun {j} _ c hc => by simp at hc) (fun w b ih {j} h c hc => ?_) w
 obtain ⟨i, h1, ⟨x, hx, _, h3⟩, _⟩ := (Nx_snoc _ _ _ _).1 h
 rcases List.mem_append.1 hc with hc | hc
 ·exact ih h1 c hc
 ·have := (good_lo hG hx).2
  simp at hc
  omega
theorem lg_byte (hG : GoodL l) (hT : TreeAt l (l.length - 1) T nT) {w : List Nat} (h : Lg T.pat w) : ∀ c ∈ w, c < 256 := by
 by_cases hw : w = []
 ·subst hw
  intro c hc
  simp at hc
 ·obtain ⟨y, b, rfl⟩ : ∃ y b, w = y ++ [b] := ⟨w.dropLast, w.getLast hw, (List.dropLast_concat_getLast hw).symm⟩
  obtain ⟨j, h1, ⟨x, hx, _, h3⟩, _⟩ := (acc_iff (tree_fits hG hT) y b).1 h
  intro c hc
  rcases List.mem_append.1 hc with hc | hc
  ·exact now_byte hG y h1 c hc
  ·have := (good_lo hG hx).2
   simp at hc
   omega
end
section
variable {l1 l2 : List Nd} {T1 T2 : Lt} {n1 n2 : List Nat}
theorem bfs_least (g1 : GoodL l1) (g2 : GoodL l2) (t1 : TreeAt l1 (l1.length - 1) T1 n1) (t2 : TreeAt l2 (l2.length - 1) T2 n2) {W : List (List Nat)} {i b : Nat} (h : Bfs (dfa2 g1 g2 t1 t2) W i b) {u : List Nat} (hu : W[i]? = some u) (ha : (dfa2 g1 g2 t1 t2).acc (u ++ [b])) :
  LeastC (fun w => w ≠ [] ∧ Lg T1.pat w ∧ Lg T2.pat w) (u ++ [b]) := by
 refine ⟨⟨by simp, ha.1, ha.2⟩, fun v ⟨h1, h2, h3⟩ => ?_, fun v ⟨h1, h2, h3⟩ hl => ?_⟩
 ·refine Nat.le_of_not_lt fun hlt => ?_
  exact h.found hu (lg_byte g1 t1 h2) h1 (.inl hlt) ⟨h2, h3⟩
 ·rcases lx_tri v (u ++ [b]) hl with k | rfl | k
  ·exact absurd ⟨h2, h3⟩ (h.found hu (lg_byte g1 t1 h2) h1 (.inr ⟨hl, k⟩))
  ·exact .inl ⟨[], by simp⟩
  ·exact lx_LL k
theorem fin32 (g1 : GoodL l1) (g2 : GoodL l2) (t1 : TreeAt l1 (l1.length - 1) T1 n1) (t2 : TreeAt l2 (l2.length - 1) T2 n2) (hb1 : l1.length ≤ 1000000) (hb2 : l2.length ≤ 1000000) {p q l : Sl} {G F : PH} {L : List Prx} {s' t' : Sl} {w : List Nat} {i b b11 : Nat}
  (hO : Owp G F l (prs T1 T2 L)) (c11 : F b11 = some (.cells #[.bool (eB T1 (w ++ [b])), s'.v, .bool (eB T2 (w ++ [b])), t'.v, .string (mkS w ++ mkS [b])] 99))
  (hs : RdS G s' 1 (bl l1.length (nowB l1 T1 (w ++ [b])))) (ht : RdS G t' 1 (bl l2.length (nowB l2 T2 (w ++ [b])))) (hL : ∀ x ∈ L, PrX l1 l2 T1 T2 G x) (hn : L.length ≤ 100000000)
  {N1 N2 : Sl → Int → PH → Prop} {R : Value → PH → Prop}
  (hacc : (dfa2 g1 g2 t1 t2).acc (w ++ [b]) → R (.tuple #[.string (mkS (w ++ [b])), vi 0]) F)
  (hskip : ¬ (dfa2 g1 g2 t1 t2).acc (w ++ [b]) → ((dfa2 g1 g2 t1 t2).dead (w ++ [b]) ∨ ∃ v ∈ L.map (·.2.2), (dfa2 g1 g2 t1 t2).S v = (dfa2 g1 g2 t1 t2).S (w ++ [b])) → ∀ F', Owp G F' l (prs T1 T2 L) → N2 l (IntKind.i64.wrap ((b : Int) + 1)) F')
  (hpush : ¬ (dfa2 g1 g2 t1 t2).acc (w ++ [b]) → (∀ v ∈ L.map (·.2.2), (dfa2 g1 g2 t1 t2).S v ≠ (dfa2 g1 g2 t1 t2).S (w ++ [b])) → ∀ l' F', Owp G F' l' (prs T1 T2 (L ++ [(s', t', w ++ [b])])) → N2 l' (IntKind.i64.wrap ((b : Int) + 1)) F') :
  b32j4 N1 N2 p q l i b (some ⟨b11, 0, none⟩) R F := by
 rw [mkS_append] at c11
 have hlen : l.len = L.length := by have := hO.own.rd.len; rw [prs_length] at this; omega
 have row : ∀ {F' : PH}, F.le F' → F'.row ⟨b11, 0, none⟩ (prv T1 T2 (s', t', w ++ [b])).toArray := fun {F'} k => row_whole (k _ _ c11)
 have row0 : ∀ {F' : PH}, F.le F' → F'.row ⟨b11, 0, none⟩ #[.bool (eB T1 (w ++ [b])), s'.v] := fun {F'} k => by
  have := row_sub (d := #[.bool (eB T1 (w ++ [b])), s'.v]) (row k) rfl 0 fun j hj => by
   have : j < 2 := hj
   match j, this with
   | 0, _ => rfl
   | 1, _ => rfl
  exact this
 have row2 : ∀ {F' : PH}, F.le F' → F'.row ((⟨b11, 0, none⟩ : Addr).add 2) #[.bool (eB T2 (w ++ [b])), t'.v] := fun {F'} k => row_sub (d := #[.bool (eB T2 (w ++ [b])), t'.v]) (row k) rfl 2 fun j hj => by
   have : j < 2 := hj
   match j, this with
   | 0, _ => rfl
   | 1, _ => rfl
 have j6 : ∀ (F' : PH) (fl : Bool), F.le F' → ¬ (dfa2 g1 g2 t1 t2).acc (w ++ [b]) → (fl = true → ∀ v ∈ L.map (·.2.2), (dfa2 g1 g2 t1 t2).S v ≠ (dfa2 g1 g2 t1 t2).S (w ++ [b])) →
   (fl = false → ((dfa2 g1 g2 t1 t2).dead (w ++ [b]) ∨ ∃ v ∈ L.map (·.2.2), (dfa2 g1 g2 t1 t2).S v = (dfa2 g1 g2 t1 t2).S (w ++ [b]))) → b32j6 N1 N2 p q l i b (some ⟨b11, 0, none⟩) fl R F' := fun F' fl k na ht hf => by
  unfold b32j6
  refine ⟨fun e => ⟨_, rfl, (prv T1 T2 (s', t', w ++ [b])).toArray, rfl, row k, rfl, ?_⟩, fun e => ?_⟩
  ·refine (hO.up k).push (ws := prv T1 T2 (s', t', w ++ [b])) rfl (st_prv _) (by omega) (K := fun v F => b32j3 N1 N2 p q i b v R F) fun s2 F2 h2 => ?_
   unfold b32j3
   exact hpush na (ht e) s2 F2 (by rw [prs_append]; simpa [prs] using h2)
  ·unfold b32j3
   exact hskip na (hf e) F' (hO.up k)
 have j5 : ∀ fl : Bool, (fl = true ↔ (dfa2 g1 g2 t1 t2).acc (w ++ [b])) → b32j5 N1 N2 p q l i b (some ⟨b11, 0, none⟩) fl R F := fun fl hfl => by
  unfold b32j5
  refine ⟨fun e => ⟨_, rfl, mkS (w ++ [b]), row (le_refl' _) 4 (show 4 < 5 by decide), hacc (hfl.1 e)⟩, fun e => ⟨_, rfl, _, rfl, row0 (le_refl' _), ?_⟩⟩
  have na : ¬ (dfa2 g1 g2 t1 t2).acc (w ++ [b]) := fun h => by rw [hfl.2 h] at e; cases e
  refine (dead_spec hb1 (hs.le hO.le)).mono ?_
  rintro _ F2 ⟨⟨d1, rfl, hd1⟩, k2⟩
  refine ⟨_, rfl, fun h1 => ⟨_, rfl, row2 k2, ?_⟩, fun h1 => ?_⟩
  ·refine (dead_spec hb2 (ht.le (le_trans' hO.le k2))).mono ?_
   rintro _ F3 ⟨⟨d2, rfl, hd2⟩, k3⟩
   have k23 := le_trans' k2 k3
   refine ⟨_, rfl, fun h2 => ⟨_, rfl, row k23, ?_⟩, fun h2 => ?_⟩
   ·refine (met_spec hb1 hb2 (hO.up k23).own.rd (fun x hx => (hL x hx).le (le_trans' hO.le k23)) (by omega) (x := (s', t', w ++ [b])) ⟨hs.le (le_trans' hO.le k23), ht.le (le_trans' hO.le k23)⟩).mono ?_
    rintro _ F4 ⟨⟨m, rfl, hm⟩, k4⟩
    refine ⟨_, rfl, j6 F4 (!m) (le_trans' k23 k4) na (fun e v hv he => ?_) (fun e => .inr ?_)⟩
    ·obtain ⟨y, hy, rfl⟩ := List.mem_map.1 hv
     have : m = true := hm.2 ⟨y, hy, dfa2_eq.1 he⟩
     rw [this] at e
     cases e
    ·have : m = true := by simpa using e
     obtain ⟨y, hy, h⟩ := hm.1 this
     exact ⟨_, List.mem_map.2 ⟨y, hy, rfl⟩, dfa2_eq.2 h⟩
   ·exact j6 F3 false k23 na (fun e => by cases e) (fun _ => .inl (.inr (hd2.1 (by simpa using h2))))
  ·exact j6 F2 false k2 na (fun e => by cases e) (fun _ => .inl (.inl (hd1.1 (by simpa using h1))))
 unfold b32j4
 refine ⟨_, rfl, eB T1 (w ++ [b]), ?_, fun e => ⟨eB T2 (w ++ [b]), row2 (le_refl' _) 0 (show 0 < 2 by decide), j5 _ ?_⟩, fun e => j5 false ?_⟩
 ·exact row0 (le_refl' _) 0 (show 0 < 2 by decide)
 ·exact ⟨fun k => ⟨eB_iff.1 e, eB_iff.1 k⟩, fun k => eB_iff.2 k.2⟩
 ·refine ⟨fun h => (by cases h), fun h => ?_⟩
  rw [eB_iff.2 h.1] at e
  cases e
def ComS2 (l1 l2 : List Nd) (s : ByteArray) (e : Int) : Prop := ((∀ w, ¬ ComW l1 l2 w) ∧ bs s = [] ∧ e = 3) ∨ (LeastC (ComW l1 l2) (bs s) ∧ e = 0)
theorem ComS.two {s t : ByteArray} {e f : Int} (h : ComS l1 l2 s e) (k : ComS2 l1 l2 t f) : s = t ∧ e = f := by
 rcases h with ⟨h1, h2, rfl⟩ | ⟨h1, rfl, _⟩
 ·rcases k with ⟨k1, k2, rfl⟩ | ⟨k1, rfl⟩
  ·exact ⟨bs_inj (h2.trans k2.symm), rfl⟩
  ·exact absurd k1.is (h1 _)
 ·rcases k with ⟨k1, k2, rfl⟩ | ⟨k1, rfl⟩
  ·exact absurd h1.is (k1 _)
  ·exact ⟨bs_inj (h1.uniq k1), rfl⟩
def cmI1 (g1 : GoodL l1) (g2 : GoodL l2) (t1 : TreeAt l1 (l1.length - 1) T1 n1) (t2 : TreeAt l2 (l2.length - 1) T2 n2) (F0 : PH) : Nat → Sl → Int → PH → Prop := fun m s i F' => ∃ (k : Nat) (G : PH) (L : List Prx), i = k ∧ k ≤ L.length ∧ m = 67108864 - k ∧ F0.le G ∧ Owp G F' s (prs T1 T2 L) ∧ (∀ x ∈ L, PrX l1 l2 T1 T2 G x) ∧ Bfs (dfa2 g1 g2 t1 t2) (L.map (·.2.2)) k 0
def cmI2 (g1 : GoodL l1) (g2 : GoodL l2) (t1 : TreeAt l1 (l1.length - 1) T1 n1) (t2 : TreeAt l2 (l2.length - 1) T2 n2) (F0 : PH) (k : Nat) : Nat → Sl → Int → PH → Prop := fun m s b F' => ∃ (c : Nat) (G : PH) (L : List Prx), b = c ∧ c ≤ 256 ∧ m = 256 - c ∧ k < L.length ∧ F0.le G ∧ Owp G F' s (prs T1 T2 L) ∧ (∀ x ∈ L, PrX l1 l2 T1 T2 G x) ∧ Bfs (dfa2 g1 g2 t1 t2) (L.map (·.2.2)) k c
theorem common_ref {F : PH} (c1 : chkP l1 = 0) (c2 : chkP l2 = 0) (b1 : l1.length ≤ 12) (b2 : l2.length ≤ 12) {p q : Sl} (hp : RdS F p 5 (nflat l1)) (hq : RdS F q 5 (nflat l2)) : Spec prog 32 #[p.v, q.v] F fun r F' => (∃ s e, r = .tuple #[.string s, vi e] ∧ ComS2 l1 l2 s e) ∧ F.le F' := by
 obtain ⟨g1, _⟩ := chkP_zero c1
 obtain ⟨g2, _⟩ := chkP_zero c2
 obtain ⟨n1, t1⟩ := treeL_spec g1
 obtain ⟨n2, t2⟩ := treeL_spec g2
 have hb1 : l1.length ≤ 1000000 := by omega
 have hb2 : l2.length ≤ 1000000 := by omega
 refine c32 ?_
 unfold b32
 refine (refcheck_spec hp).mono ?_
 rintro _ F1 ⟨rfl, le1⟩
 refine ⟨_, rfl, ?_⟩
 refine (refcheck_spec (hq.le le1)).mono ?_
 rintro _ F2 ⟨rfl, le2⟩
 replace le2 := le_trans' le1 le2
 refine ⟨_, rfl, fun h => absurd c1 h, fun _ => ⟨fun h => absurd c2 h, fun _ => ?_⟩⟩
 refine (begin_spec g1 hb1 t1 (hp.le le2)).mono ?_
 rintro _ F3 ⟨⟨s0, rfl, hs0⟩, le3⟩
 replace le3 := le_trans' le2 le3
 refine ⟨_, rfl, ?_⟩
 refine (begin_spec g2 hb2 t2 (hq.le le3)).mono ?_
 rintro _ F4 ⟨⟨t0, rfl, ht0⟩, le4⟩
 replace hs0 := hs0.le le4
 replace le4 := le_trans' le3 le4
 refine ⟨_, rfl, rfl, rfl, rfl, ?_⟩
 intro b27 h27
 refine atI ?_
 have q27 := set_eq F4 b27 (.cells (wr (wr (#[.bool false, .slice none 0 0, .bool false, .slice none 0 0, .string ⟨#[]⟩] : Array Value) 0 (#[Value.bool (eB (treeL l1) []), s0.v] : Array Value).toList) 2 (#[Value.bool (eB (treeL l2) []), t0.v] : Array Value).toList) 99)
 have l27 := le_set_fresh (.cells (wr (wr (#[.bool false, .slice none 0 0, .bool false, .slice none 0 0, .string ⟨#[]⟩] : Array Value) 0 (#[Value.bool (eB (treeL l1) []), s0.v] : Array Value).toList) 2 (#[Value.bool (eB (treeL l2) []), t0.v] : Array Value).toList) 99) h27
 generalize F4.set b27 (.cells (wr (wr (#[.bool false, .slice none 0 0, .bool false, .slice none 0 0, .string ⟨#[]⟩] : Array Value) 0 (#[Value.bool (eB (treeL l1) []), s0.v] : Array Value).toList) 2 (#[Value.bool (eB (treeL l2) []), t0.v] : Array Value).toList) 99) = F5 at *
 have hO : Owp F4 F5 ⟨some ⟨b27, 0, none⟩, 1, 1⟩ (prs (treeL l1) (treeL l2) [(s0, t0, [])]) :=
  ⟨l27, .inr ⟨b27, _, rfl, q27, rfl, Nat.le_refl _, rfl, rfl⟩, fun a ha => by cases ha; exact h27⟩
 refine ⟨cmI1 g1 g2 t1 t2 F, 67108864, ⟨0, F4, [(s0, t0, [])], rfl, by simp, rfl, le4, hO, fun x hx => by rw [List.mem_singleton] at hx; subst hx; exact ⟨hs0, ht0⟩, Bfs.start⟩, ?_⟩
 clear hO q27 l27 h27
 rintro _ l _ F6 ⟨k, G, L, rfl, hk, rfl, lG, hO, hL, hB⟩
 have hlen : l.len = L.length := by have := hO.own.rd.len; rw [prs_length] at this; omega
 unfold b32L1
 refine ⟨fun hlt => ?_, fun hge => ?_⟩
 ·refine ⟨cmI2 g1 g2 t1 t2 F k, 256, ⟨0, G, L, rfl, by omega, rfl, by omega, lG, hO, hL, hB⟩, ?_⟩
  clear hlt hlen hO hL hB lG hk
  rintro _ l _ F7 ⟨c, G, L, rfl, hc, rfl, hkl, lG, hO, hL, hB⟩
  have hbound := hB.bound (dfa2_lt b1 b2)
  rw [List.length_map] at hbound
  obtain ⟨⟨s, t, w⟩, hx⟩ : ∃ x, L[k]? = some x := ⟨_, List.getElem?_eq_getElem hkl⟩
  have hxw : (L.map (·.2.2))[k]? = some w := by rw [List.getElem?_map, hx]; rfl
  have hw := hB.short (k + 1) k w (by omega) hxw
  have hX := hL _ (List.mem_of_getElem? hx)
  refine step32 g1 g2 t1 t2 hb1 hb2 (hp.le lG) (hq.le lG) hO hx hX.1 hX.2 (by omega) hc (fun hge => ?_) fun G' F' b11 s' t' hc' lG' hO' _ c11 hs' ht' => ?_
  ·obtain rfl : c = 256 := by omega
   exact ⟨67108864 - (k + 1), by omega, k + 1, G, L, w64s (by omega), by omega, rfl, lG, hO, hL, hB.next⟩
  ·have lG2 := le_trans' lG lG'
   refine fin32 g1 g2 t1 t2 hb1 hb2 hO' c11 hs' ht' (fun x hx => (hL x hx).le lG') (by omega) (fun ha => ?_) (fun na hd F'' hO'' => ?_) (fun na hm l' F'' hO'' => ?_)
   ·have hl := bfs_least g1 g2 t1 t2 hB hxw ha
    refine ⟨⟨_, _, rfl, .inr ⟨?_, rfl⟩⟩, le_trans' lG2 hO'.le⟩
    rw [bs_mkS (lg_byte g1 t1 ha.1)]
    exact hl
   ·exact ⟨256 - (c + 1), by omega, c + 1, G', L, w64s (by omega), by omega, rfl, hkl, lG2, hO'', fun x hx => (hL x hx).le lG', hB.skip hxw na hd⟩
   ·refine ⟨256 - (c + 1), by omega, c + 1, G', _, w64s (by omega), by omega, rfl, by rw [List.length_append]; omega, lG2, hO'', fun x hx => ?_, ?_⟩
    ·rcases List.mem_append.1 hx with hx | hx
     ·exact (hL x hx).le lG'
     ·rw [List.mem_singleton] at hx
      subst hx
      exact ⟨hs', ht'⟩
    ·rw [List.map_append]
     exact hB.push hc' hxw na hm
 ·unfold b32j1
  obtain rfl : k = L.length := by omega
  refine ⟨⟨_, _, rfl, .inl ⟨fun w ⟨h1, h2, h3⟩ => ?_, rfl, rfl⟩⟩, le_trans' lG hO.le⟩
  have hB' : Bfs (dfa2 g1 g2 t1 t2) (L.map (·.2.2)) (L.map (·.2.2)).length 0 := by rw [List.length_map]; exact hB
  exact hB'.finished (lg_byte g1 t1 h2) h1 ⟨h2, h3⟩
theorem shortest_ref {F : PH} {l : List Nd} (c : chkP l = 0) (b : l.length ≤ 12) {p : Sl} (hp : RdS F p 5 (nflat l)) : Spec prog 30 #[p.v] F fun r F' => (∃ s e, r = .tuple #[.string s, vi e] ∧ ComS2 l l s e) ∧ F.le F' := by
 refine c30 ?_
 unfold b30
 refine (common_ref c c b b hp hp).mono ?_
 rintro _ F' ⟨⟨s, e, rfl, h⟩, l⟩
 exact ⟨s, e, rfl, ⟨s, e, rfl, h⟩, l⟩
theorem law6_spec {F : PH} (hT : Tab F) {sl sm : Sl} {zs zm : List Int} (hl : RdS F sl 1 (zs.map (Value.int .u8))) (hz : ∀ z ∈ zs, 0 ≤ z ∧ z ≤ 255) (hlen : zs.length ≤ 9000000000000000)
  (hm : RdS F sm 1 (zm.map (Value.int .u8))) (hzm : ∀ z ∈ zm, 0 ≤ z ∧ z ≤ 255) (hlenm : zm.length ≤ 9000000000000000) : Spec prog 6 #[sl.v, sm.v] F fun r F' => r = .bool true ∧ F.le F' := by
 refine c6 ?_
 unfold b6
 refine (sanity_spec hT).mono ?_
 rintro _ F1 ⟨rfl, l1⟩
 refine ⟨_, rfl, ?_⟩
 refine (made_speck (K := 12) (by omega) (by omega) (hl.le l1) hz hlen).mono ?_
 rintro _ F2 ⟨hM, l2⟩
 obtain ⟨s1, p1, rfl, hb1, hz1, r1, k1⟩ := hM.rd (by omega)
 have l02 := le_trans' l1 l2
 refine ⟨s1, rfl, ?_⟩
 refine (made_speck (K := 12) (by omega) (by omega) (hm.le l02) hzm hlenm).mono ?_
 rintro _ F3 ⟨hM2, l3⟩
 obtain ⟨s2, p2, rfl, hb2, hz2, r2, k2⟩ := hM2.rd (by omega)
 replace r1 := r1.le l3
 have l03 := le_trans' l02 l3
 have e1 : (p1.nodes 0).length ≤ 12 := by rw [Pat.nodes_length]; exact hz1
 have e2 : (p2.nodes 0).length ≤ 12 := by rw [Pat.nodes_length]; exact hz2
 refine ⟨s2, rfl, ?_⟩
 refine (shortest_spec (hT.le l03) r1).mono ?_
 rintro _ F4 ⟨hC, l4⟩
 obtain ⟨x, ex, rfl, hCv⟩ := hC.val k1 k1
 refine ⟨x, ex, rfl, ?_⟩
 refine (shortest_ref k1 e1 (r1.le l4)).mono ?_
 rintro _ F5 ⟨⟨y, ey, rfl, hD⟩, l5⟩
 obtain ⟨rfl, rfl⟩ := hCv.two hD
 have l35 := le_trans' l4 l5
 refine ⟨x, ex, rfl, ?_⟩
 refine (common_spec ((hT.le l03).le l35) (r1.le l35) (r2.le l35)).mono ?_
 rintro _ F6 ⟨hC2, l6⟩
 obtain ⟨x2, ex2, rfl, hCv2⟩ := hC2.val k1 k2
 refine ⟨x2, ex2, rfl, ?_⟩
 have l36 := le_trans' l35 l6
 refine (common_ref k1 k2 e1 e2 (r1.le l36) (r2.le l36)).mono ?_
 rintro _ F7 ⟨⟨y2, ey2, rfl, hD2⟩, l7⟩
 obtain ⟨rfl, rfl⟩ := hCv2.two hD2
 refine ⟨x2, ex2, rfl, fun _ => ⟨fun _ => ⟨fun _ => ⟨fun _ => ⟨rfl, le_trans' l03 (le_trans' l36 l7)⟩, fun h => absurd rfl h⟩, fun h => ?_⟩, fun h => absurd rfl h⟩, fun h => ?_⟩
 ·rw [beq_self_eq_true] at h
  cases h
 ·rw [beq_self_eq_true] at h
  cases h
end
end Go.Proofs.YtnjcgpihfmklfaaDoor
