/-
  The tree of a valid pattern.
-/
import Derived.Test.YtnjcgpihfmklfaaDoorQl
namespace Go.Proofs.YtnjcgpihfmklfaaDoor
open Go
def Par (l : List Nd) (j k : Nat) : Prop := ∃ x, l[k]? = some x ∧ (j : Int) ∈ us x
inductive Up (l : List Nd) : Nat → Nat → Prop where
 | refl (j : Nat) : Up l j j
 | step {j k m : Nat} : Up l j k → Par l k m → Up l j m
inductive TreeAt (l : List Nd) : Nat → Lt → List Nat → Prop where
 | emp {i : Nat} {x : Nd} : l[i]? = some x → x.k = 0 → TreeAt l i .emp [i]
 | rng {i lo hi : Nat} {x : Nd} : l[i]? = some x → x.k = 1 → x.lo = lo → x.hi = hi → lo ≤ hi → hi ≤ 255 → TreeAt l i (.rng i lo hi) [i]
 | seq {i a b : Nat} {x : Nd} {t u : Lt} {na nb : List Nat} : l[i]? = some x → x.k = 2 → x.a = a → x.b = b → TreeAt l a t na → TreeAt l b u nb → TreeAt l i (.seq t u) (i :: na ++ nb)
 | alt {i a b : Nat} {x : Nd} {t u : Lt} {na nb : List Nat} : l[i]? = some x → x.k = 3 → x.a = a → x.b = b → TreeAt l a t na → TreeAt l b u nb → TreeAt l i (.alt t u) (i :: na ++ nb)
 | rep {i a : Nat} {x : Nd} {t : Lt} {na : List Nat} : l[i]? = some x → x.k = 4 → x.a = a → TreeAt l a t na → TreeAt l i (.rep t) (i :: na)
theorem us_two {x : Nd} (h : x.k = 2 ∨ x.k = 3) : us x = [x.b, x.a] := by
 have : ar x.k = 2 := by unfold ar; rw [if_neg (by omega), if_pos h]
 unfold us
 rw [this]
 rfl
theorem us_one {x : Nd} (h : x.k = 4) : us x = [x.a] := by
 have : ar x.k = 1 := by unfold ar; rw [if_pos h]
 unfold us
 rw [this]
 rfl
theorem ar_kinds {k : Int} (h : 0 ≤ ar k) : k = 0 ∨ k = 1 ∨ k = 2 ∨ k = 3 ∨ k = 4 := by
 unfold ar at h
 split at h
 ·omega
 ·split at h
  ·omega
  ·split at h <;> omega
theorem ar_two {k : Int} (h : k = 2 ∨ k = 3) : ar k = 2 := by unfold ar; rw [if_neg (by omega), if_pos h]
theorem ar_one {k : Int} (h : k = 4) : ar k = 1 := by unfold ar; rw [if_pos h]
theorem ar_zero {k : Int} (h : k = 0 ∨ k = 1) : ar k = 0 := by unfold ar; rw [if_neg (by omega), if_neg (by omega), if_pos h]
section
variable {l : List Nd} (hG : GoodL l)
include hG
theorem tree_ex : ∀ (n i : Nat), i < n → i < l.length → ∃ t ns, TreeAt l i t ns := by
 intro n
 induction n with
 | zero => intro i h; omega
 | succ n ih =>
  intro i hi hl
  have hx := List.getElem?_eq_getElem hl
  have ho := hG.ok i _ hx
  generalize l[i] = x at hx ho
  obtain ⟨h0, h1, h2, h3, h4, h5, h6⟩ := ho
  rcases ar_kinds h0 with hk | hk | hk | hk | hk
  ·exact ⟨_, _, .emp hx hk⟩
  ·obtain ⟨a, b, c⟩ := h1 hk
   exact ⟨_, _, .rng (lo := x.lo.toNat) (hi := x.hi.toNat) hx hk (by omega) (by omega) (by omega) (by omega)⟩
  ·have e := ar_two (k := x.k) (.inl hk)
   obtain ⟨a1, a2⟩ := h5 (by omega)
   obtain ⟨b1, b2⟩ := h6 (by omega)
   obtain ⟨t, na, ht⟩ := ih x.a.toNat (by omega) (by omega)
   obtain ⟨u, nb, hu⟩ := ih x.b.toNat (by omega) (by omega)
   exact ⟨_, _, .seq hx hk (by omega) (by omega) ht hu⟩
  ·have e := ar_two (k := x.k) (.inr hk)
   obtain ⟨a1, a2⟩ := h5 (by omega)
   obtain ⟨b1, b2⟩ := h6 (by omega)
   obtain ⟨t, na, ht⟩ := ih x.a.toNat (by omega) (by omega)
   obtain ⟨u, nb, hu⟩ := ih x.b.toNat (by omega) (by omega)
   exact ⟨_, _, .alt hx hk (by omega) (by omega) ht hu⟩
  ·have e := ar_one (k := x.k) hk
   obtain ⟨a1, a2⟩ := h5 (by omega)
   obtain ⟨t, na, ht⟩ := ih x.a.toNat (by omega) (by omega)
   exact ⟨_, _, .rep hx hk (by omega) ht⟩
theorem Par.lt {j k : Nat} (h : Par l j k) : j < k ∧ k < l.length := by
 obtain ⟨x, hx, hm⟩ := h
 have hlt := (List.getElem?_eq_some_iff.1 hx).1
 obtain ⟨h0, h1, h2, h3, h4, h5, h6⟩ := hG.ok k x hx
 rcases ar_kinds h0 with hk | hk | hk | hk | hk
 ·have e := ar_zero (k := x.k) (.inl hk)
  unfold us at hm
  rw [e] at hm
  simp at hm
 ·have e := ar_zero (k := x.k) (.inr hk)
  unfold us at hm
  rw [e] at hm
  simp at hm
 ·have e := ar_two (k := x.k) (.inl hk)
  rw [us_two (.inl hk)] at hm
  have := h5 (by omega)
  have := h6 (by omega)
  simp at hm
  omega
 ·have e := ar_two (k := x.k) (.inr hk)
  rw [us_two (.inr hk)] at hm
  have := h5 (by omega)
  have := h6 (by omega)
  simp at hm
  omega
 ·have e := ar_one (k := x.k) hk
  rw [us_one hk] at hm
  have := h5 (by omega)
  simp at hm
  omega
omit hG in
theorem usL_mem {j : Int} : ∀ (l : List Nd) {k : Nat} {x : Nd}, l[k]? = some x → j ∈ us x → j ∈ usL l
 | y :: l, 0, x, h, hm => by
  simp at h
  subst h
  simp [usL, hm]
 | y :: l, k + 1, x, h, hm => by
  simp at h
  simp only [usL, List.mem_append]
  exact .inl (usL_mem l h hm)
omit hG in
theorem usL_uniq {j : Int} : ∀ (l : List Nd), (usL l).Nodup → ∀ {k m : Nat} {x y : Nd}, l[k]? = some x → l[m]? = some y → j ∈ us x → j ∈ us y → k = m
 | z :: l, hn, 0, 0, x, y, h1, h2, h3, h4 => rfl
 | z :: l, hn, 0, m + 1, x, y, h1, h2, h3, h4 => by
  simp at h1 h2
  subst h1
  rw [usL] at hn
  exact absurd rfl ((List.nodup_append.1 hn).2.2 j (usL_mem l h2 h4) j h3)
 | z :: l, hn, k + 1, 0, x, y, h1, h2, h3, h4 => by
  simp at h1 h2
  subst h2
  rw [usL] at hn
  exact absurd rfl ((List.nodup_append.1 hn).2.2 j (usL_mem l h1 h3) j h4)
 | z :: l, hn, k + 1, m + 1, x, y, h1, h2, h3, h4 => by
  simp at h1 h2
  rw [usL] at hn
  rw [usL_uniq l (List.nodup_append.1 hn).1 h1 h2 h3 h4]
theorem Par.uniq {j k m : Nat} (h1 : Par l j k) (h2 : Par l j m) : k = m := by
 obtain ⟨x, hx, hm⟩ := h1
 obtain ⟨y, hy, hn⟩ := h2
 exact usL_uniq l hG.nd hx hy hm hn
omit hG in
theorem Up.trans {j k m : Nat} (h1 : Up l j k) (h2 : Up l k m) : Up l j m := by
 induction h2 with
 | refl => exact h1
 | step _ h ih => exact ih.step h
omit hG in
theorem Up.head {j m : Nat} (h : Up l j m) : j = m ∨ ∃ k, Par l j k ∧ Up l k m := by
 induction h with
 | refl => exact .inl rfl
 | @step k m h hp ih =>
  rcases ih with rfl | ⟨c, h1, h2⟩
  ·exact .inr ⟨m, hp, .refl m⟩
  ·exact .inr ⟨c, h1, h2.step hp⟩
theorem Up.le {j m : Nat} (h : Up l j m) : j ≤ m := by
 induction h with
 | refl => exact Nat.le_refl _
 | step _ hp ih => have := hp.lt hG; omega
theorem Up.chain {j a b : Nat} (ha : Up l j a) (hb : Up l j b) : Up l a b ∨ Up l b a := by
 induction ha with
 | refl => exact .inl hb
 | @step k m h hp ih =>
  rcases ih with h1 | h1
  ·rcases h1.head with rfl | ⟨c, h2, h3⟩
   ·exact .inr ((Up.refl k).step hp)
   ·rw [h2.uniq hG hp] at h3
    exact .inl h3
  ·exact .inr (h1.step hp)
omit hG in
theorem tree_up {i : Nat} {t : Lt} {ns : List Nat} (h : TreeAt l i t ns) : ∀ j ∈ ns, Up l j i := by
 induction h with
 | @emp i x hx hk => intro j hj; simp at hj; subst hj; exact .refl _
 | @rng i lo hi x hx hk _ _ _ _ => intro j hj; simp at hj; subst hj; exact .refl _
 | @seq i a b x t u na nb hx hk ha hb h1 h2 i1 i2 =>
  intro j hj
  simp only [List.cons_append, List.mem_cons, List.mem_append] at hj
  rcases hj with rfl | hj | hj
  ·exact .refl _
  ·exact (i1 j hj).step ⟨x, hx, by rw [us_two (.inl hk), ha]; simp⟩
  ·exact (i2 j hj).step ⟨x, hx, by rw [us_two (.inl hk), hb]; simp⟩
 | @alt i a b x t u na nb hx hk ha hb h1 h2 i1 i2 =>
  intro j hj
  simp only [List.cons_append, List.mem_cons, List.mem_append] at hj
  rcases hj with rfl | hj | hj
  ·exact .refl _
  ·exact (i1 j hj).step ⟨x, hx, by rw [us_two (.inr hk), ha]; simp⟩
  ·exact (i2 j hj).step ⟨x, hx, by rw [us_two (.inr hk), hb]; simp⟩
 | @rep i a x t na hx hk ha h1 i1 =>
  intro j hj
  simp only [List.mem_cons] at hj
  rcases hj with rfl | hj
  ·exact .refl _
  ·exact (i1 j hj).step ⟨x, hx, by rw [us_one hk, ha]; simp⟩
theorem us_ne {i a b : Nat} {x : Nd} (hx : l[i]? = some x) (hk : x.k = 2 ∨ x.k = 3) (ha : x.a = a) (hb : x.b = b) : a ≠ b := by
 intro e
 have hn := hG.nd
 have hsub : ∀ (l : List Nd) (i : Nat), l[i]? = some x → (usL l).Nodup → (us x).Nodup := by
  intro l
  induction l with
  | nil => intro i h; simp at h
  | cons y l ih =>
   intro i h hn
   rw [usL] at hn
   cases i with
   | zero =>
    simp at h
    subst h
    exact (List.nodup_append.1 hn).2.1
   | succ i =>
    simp at h
    exact ih i h (List.nodup_append.1 hn).1
 have := hsub l i hx hn
 rw [us_two hk, ha, hb, e] at this
 simp at this
theorem sides {i a b j : Nat} {x : Nd} (hx : l[i]? = some x) (hk : x.k = 2 ∨ x.k = 3) (ha : x.a = a) (hb : x.b = b) (h1 : Up l j a) (h2 : Up l j b) : False := by
 have pa : Par l a i := ⟨x, hx, by rw [us_two hk, ha]; simp⟩
 have pb : Par l b i := ⟨x, hx, by rw [us_two hk, hb]; simp⟩
 have hne := us_ne hG hx hk ha hb
 rcases h1.chain hG h2 with h | h
 ·rcases h.head with e | ⟨c, h3, h4⟩
  ·exact hne e
  ·rw [h3.uniq hG pa] at h4
   have := h4.le hG
   have := pb.lt hG
   omega
 ·rcases h.head with e | ⟨c, h3, h4⟩
  ·exact hne e.symm
  ·rw [h3.uniq hG pb] at h4
   have := h4.le hG
   have := pa.lt hG
   omega
theorem tree_nodup {i : Nat} {t : Lt} {ns : List Nat} (h : TreeAt l i t ns) : ns.Nodup := by
 induction h with
 | emp => simp
 | rng => simp
 | @seq i a b x t u na nb hx hk ha hb h1 h2 i1 i2 =>
  have pa : Par l a i := ⟨x, hx, by rw [us_two (.inl hk), ha]; simp⟩
  have pb : Par l b i := ⟨x, hx, by rw [us_two (.inl hk), hb]; simp⟩
  rw [List.cons_append, List.nodup_cons, List.nodup_append]
  refine ⟨fun hm => ?_, i1, i2, fun j hj k hk' e => ?_⟩
  ·rcases List.mem_append.1 hm with hm | hm
   ·have := (tree_up h1 i hm).le hG
    have := pa.lt hG
    omega
   ·have := (tree_up h2 i hm).le hG
    have := pb.lt hG
    omega
  ·subst e
   exact sides hG hx (.inl hk) ha hb (tree_up h1 j hj) (tree_up h2 j hk')
 | @alt i a b x t u na nb hx hk ha hb h1 h2 i1 i2 =>
  have pa : Par l a i := ⟨x, hx, by rw [us_two (.inr hk), ha]; simp⟩
  have pb : Par l b i := ⟨x, hx, by rw [us_two (.inr hk), hb]; simp⟩
  rw [List.cons_append, List.nodup_cons, List.nodup_append]
  refine ⟨fun hm => ?_, i1, i2, fun j hj k hk' e => ?_⟩
  ·rcases List.mem_append.1 hm with hm | hm
   ·have := (tree_up h1 i hm).le hG
    have := pa.lt hG
    omega
   ·have := (tree_up h2 i hm).le hG
    have := pb.lt hG
    omega
  ·subst e
   exact sides hG hx (.inr hk) ha hb (tree_up h1 j hj) (tree_up h2 j hk')
 | @rep i a x t na hx hk ha h1 i1 =>
  have pa : Par l a i := ⟨x, hx, by rw [us_one hk, ha]; simp⟩
  rw [List.nodup_cons]
  refine ⟨fun hm => ?_, i1⟩
  have := (tree_up h1 i hm).le hG
  have := pa.lt hG
  omega
omit hG in
theorem tree_size {i : Nat} {t : Lt} {ns : List Nat} (h : TreeAt l i t ns) : t.pat.size = ns.length := by
 induction h with
 | emp => rfl
 | rng => rfl
 | seq _ _ _ _ _ _ i1 i2 => simp [Lt.pat, Pat.size, i1, i2]
 | alt _ _ _ _ _ _ i1 i2 => simp [Lt.pat, Pat.size, i1, i2]
 | rep _ _ _ _ i1 => simp [Lt.pat, Pat.size, i1]
omit hG in
theorem nodup_bound : ∀ (n : Nat) (ns : List Nat), ns.Nodup → (∀ j ∈ ns, j < n) → ns.length ≤ n
 | 0, [], _, _ => Nat.le_refl _
 | 0, j :: ns, _, h => absurd (h j (by simp)) (by omega)
 | n + 1, ns, hn, h => by
  by_cases hm : n ∈ ns
  ·have := nodup_bound n (ns.erase n) (hn.erase n) fun j hj => by
    have h1 := h j (List.mem_of_mem_erase hj)
    have h2 : j ≠ n := fun e => by rw [e] at hj; exact (hn.not_mem_erase hj)
    omega
   rw [List.length_erase_of_mem hm] at this
   omega
  ·have := nodup_bound n ns hn fun j hj => by
    have h1 := h j hj
    have h2 : j ≠ n := fun e => hm (e ▸ hj)
    omega
   omega
theorem tree_small {i : Nat} {t : Lt} {ns : List Nat} (h : TreeAt l i t ns) : t.pat.size ≤ i + 1 := by
 rw [tree_size h]
 exact nodup_bound (i + 1) ns (tree_nodup hG h) fun j hj => by have := (tree_up h j hj).le hG; omega
end
end Go.Proofs.YtnjcgpihfmklfaaDoor
