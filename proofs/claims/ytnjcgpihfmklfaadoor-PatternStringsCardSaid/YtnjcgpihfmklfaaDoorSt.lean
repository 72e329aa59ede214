/-
  Two neighbouring nodes exchanged: still a valid pattern, of the same tree.
-/
import Derived.Test.YtnjcgpihfmklfaaDoorSg
namespace Go.Proofs.YtnjcgpihfmklfaaDoor
open Go
set_option maxRecDepth 10000
def exI (i k : Int) : Int := if k = i then i + 1 else if k = i + 1 then i else k
def exN (i k : Nat) : Nat := if k = i then i + 1 else if k = i + 1 then i else k
theorem exI_nat (i k : Nat) : exI (i : Int) (k : Int) = (exN i k : Int) := by
 unfold exI exN
 by_cases h1 : k = i
 ·subst h1; simp
 ·by_cases h2 : k = i + 1
  ·subst h2; simp
  ·rw [if_neg (by omega), if_neg (by omega), if_neg h1, if_neg h2]
theorem exI_inj {i a b : Int} (h : exI i a = exI i b) : a = b := by
 unfold exI at h
 split at h <;> split at h <;> (try split at h) <;> (try split at h) <;> omega
theorem exI_exI (i a : Int) : exI i (exI i a) = a := by
 unfold exI
 split
 ·split
  ·omega
  ·rw [if_pos rfl]; omega
 ·split
  ·rw [if_pos rfl]; omega
  ·rename_i h1 h2
   first | rfl | (rw [if_neg h1, if_neg h2])
def renN (i : Int) (x : Nd) : Nd := ⟨x.k, x.lo, x.hi, if 2 ≤ x.k then exI i x.a else x.a, if x.k = 2 ∨ x.k = 3 then exI i x.b else x.b⟩
def swL (i : Nat) (A : List Nd) (x y : Nd) (B : List Nd) : List Nd := A ++ [y, x] ++ B.map (renN i)
theorem us_ren (i : Int) (x : Nd) (h : 0 ≤ ar x.k) : us (renN i x) = (us x).map (exI i) := by
 rcases ar_kinds h with hk | hk | hk | hk | hk
 ·rw [us_zero (.inl hk), us_zero (x := renN i x) (.inl hk)]; rfl
 ·rw [us_zero (.inr hk), us_zero (x := renN i x) (.inr hk)]; rfl
 ·rw [us_two (.inl hk), us_two (x := renN i x) (.inl hk)]
  simp [renN, hk]
 ·rw [us_two (.inr hk), us_two (x := renN i x) (.inr hk)]
  simp [renN, hk]
 ·rw [us_one hk, us_one (x := renN i x) hk]
  simp [renN, hk]
theorem usL_ren (i : Int) : ∀ (B : List Nd), (∀ x ∈ B, 0 ≤ ar x.k) → usL (B.map (renN i)) = (usL B).map (exI i)
 | [], _ => rfl
 | x :: B, h => by
  rw [List.map_cons, usL, usL, List.map_append, usL_ren i B fun y hy => h y (by simp [hy]), us_ren i x (h x (by simp))]
section
variable {A B : List Nd} {x y : Nd} {i : Nat}
theorem exI_low {i a : Int} (h : a < i) : exI i a = a := by unfold exI; rw [if_neg (by omega), if_neg (by omega)]
structure Swp (A : List Nd) (x y : Nd) (B : List Nd) (i : Nat) : Prop where
 good : GoodL (A ++ [x, y] ++ B)
 len : A.length = i
 ne : B ≠ []
 no : ∀ a ∈ us y, a ≠ (i : Int)
theorem us_ok {k : Nat} {z : Nd} (h : okN k z) : ∀ a ∈ us z, 0 ≤ a ∧ a < (k : Int) := by
 obtain ⟨_, _, _, _, _, h1, h2⟩ := h
 intro a ha
 unfold us at ha
 split at ha
 ·rename_i h3
  simp only [List.mem_cons, List.not_mem_nil, or_false] at ha
  rcases ha with rfl | rfl
  ·exact h2 h3
  ·exact h1 (by omega)
 ·split at ha
  ·rename_i h3
   simp only [List.mem_cons, List.not_mem_nil, or_false] at ha
   subst ha
   exact h1 h3
  ·cases ha
theorem Swp.at_x (h : Swp A x y B i) : okN i x := h.good.ok i x (by rw [List.append_assoc, List.getElem?_append_right (by rw [h.len]; exact Nat.le_refl _), h.len, Nat.sub_self]; rfl)
theorem Swp.at_y (h : Swp A x y B i) : okN (i + 1) y := h.good.ok (i + 1) y (by rw [List.append_assoc, List.getElem?_append_right (by rw [h.len]; omega), h.len, Nat.add_sub_cancel_left]; rfl)
theorem Swp.at_A (h : Swp A x y B i) {k : Nat} {z : Nd} (hz : A[k]? = some z) : okN k z := h.good.ok k z (by rw [List.append_assoc, List.getElem?_append_left (List.getElem?_eq_some_iff.1 hz).1]; exact hz)
theorem Swp.at_B (h : Swp A x y B i) {k : Nat} {z : Nd} (hz : B[k]? = some z) : okN (i + 2 + k) z := h.good.ok (i + 2 + k) z (by
 have hl := h.len
 rw [List.getElem?_append_right (by simp; omega)]
 have : i + 2 + k - (A ++ [x, y]).length = k := by simp; omega
 rw [this]
 exact hz)
theorem okN_ren {k : Nat} {z : Nd} (h : okN k z) (hk : i + 2 ≤ k) : okN k (renN i z) := by
 obtain ⟨h0, h1, h2, h3, h4, h5, h6⟩ := h
 have ex : ∀ {a : Int}, 0 ≤ a → a < (k : Int) → 0 ≤ exI i a ∧ exI i a < (k : Int) := fun {a} h1 h2 => by
  unfold exI
  split
  ·omega
  ·split <;> omega
 have e : (renN i z).k = z.k := rfl
 refine ⟨h0, h1, h2, fun h => ?_, fun h => ?_, fun h => ?_, fun h => ?_⟩
 ·have := h3 h
  have hk2 : ¬ 2 ≤ z.k := fun hc => by
   rcases ar_kinds h0 with q | q | q | q | q
   ·omega
   ·omega
   ·rw [e, ar_two (.inl q)] at h; omega
   ·rw [e, ar_two (.inr q)] at h; omega
   ·rw [e, ar_one q] at h; omega
  simp only [renN, if_neg hk2]
  exact this
 ·have := h4 h
  have hk2 : ¬ (z.k = 2 ∨ z.k = 3) := fun hc => by rw [e, ar_two hc] at h; omega
  simp only [renN, if_neg hk2]
  exact this
 ·have := h5 h
  simp only [renN]
  split
  ·exact ex this.1 this.2
  ·exact this
 ·have := h6 h
  simp only [renN]
  split
  ·exact ex this.1 this.2
  ·exact this
theorem okN_up {k m : Nat} {z : Nd} (h : okN k z) (hm : ∀ a ∈ us z, a < (m : Int)) : okN m z := by
 obtain ⟨h0, h1, h2, h3, h4, h5, h6⟩ := h
 refine ⟨h0, h1, h2, h3, h4, fun h => ⟨(h5 h).1, hm _ ?_⟩, fun h => ⟨(h6 h).1, hm _ ?_⟩⟩
 ·unfold us
  split
  ·simp
  ·simp
 ·unfold us
  rw [if_pos h]
  simp
theorem Swp.usL (h : Swp A x y B i) : (usL (swL i A x y B)).Perm ((usL (A ++ [x, y] ++ B)).map (exI i)) := by
 have e1 : Go.Proofs.YtnjcgpihfmklfaaDoor.usL (swL i A x y B) = Go.Proofs.YtnjcgpihfmklfaaDoor.usL (B.map (renN i)) ++ ((us x ++ us y) ++ Go.Proofs.YtnjcgpihfmklfaaDoor.usL A) := by
  unfold swL
  rw [usL_append, usL_append]
  simp [Go.Proofs.YtnjcgpihfmklfaaDoor.usL]
 have e2 : Go.Proofs.YtnjcgpihfmklfaaDoor.usL (A ++ [x, y] ++ B) = Go.Proofs.YtnjcgpihfmklfaaDoor.usL B ++ ((us y ++ us x) ++ Go.Proofs.YtnjcgpihfmklfaaDoor.usL A) := by
  rw [usL_append, usL_append]
  simp [Go.Proofs.YtnjcgpihfmklfaaDoor.usL]
 have hA : ∀ z ∈ A, ∀ a ∈ us z, a < (i : Int) := fun z hz a ha => by
  obtain ⟨k, hk, rfl⟩ := List.getElem_of_mem hz
  have := (us_ok (h.at_A (List.getElem?_eq_getElem hk)) a ha).2
  have := h.len
  omega
 have hAm : ∀ (A' : List Nd), (∀ z ∈ A', ∀ a ∈ us z, a < (i : Int)) → (Go.Proofs.YtnjcgpihfmklfaaDoor.usL A').map (exI i) = Go.Proofs.YtnjcgpihfmklfaaDoor.usL A' := by
  intro A'
  induction A' with
  | nil => intro _; rfl
  | cons z A' ih =>
   intro hz
   rw [Go.Proofs.YtnjcgpihfmklfaaDoor.usL, List.map_append, ih fun w hw => hz w (by simp [hw])]
   congr 1
   refine (List.map_congr_left fun a ha => ?_).trans (List.map_id _)
   exact exI_low (hz z (by simp) a ha)
 have hx : (us x).map (exI i) = us x := (List.map_congr_left fun a ha => exI_low (us_ok h.at_x a ha).2).trans (List.map_id _)
 have hy : (us y).map (exI i) = us y := (List.map_congr_left fun a ha => exI_low (by have := (us_ok h.at_y a ha).2; have := h.no a ha; omega)).trans (List.map_id _)
 rw [e1, e2, List.map_append, List.map_append, List.map_append, hx, hy, hAm A hA, usL_ren _ B fun z hz => by
  obtain ⟨k, hk, rfl⟩ := List.getElem_of_mem hz
  exact (h.at_B (List.getElem?_eq_getElem hk)).1]
 exact List.Perm.append_left _ (List.Perm.append_right _ List.perm_append_comm)
theorem Swp.good' (h : Swp A x y B i) : GoodL (swL i A x y B) := by
 have hl := h.len
 have hlen : (swL i A x y B).length = (A ++ [x, y] ++ B).length := by simp [swL]
 refine ⟨by simp [swL], fun k z hz => ?_, ?_, fun j hj => ?_⟩
 ·unfold swL at hz
  rw [List.getElem?_append, List.getElem?_append] at hz
  simp only [List.length_append, List.length_cons, List.length_nil] at hz
  split at hz
  ·split at hz
   ·exact h.at_A hz
   ·rename_i h1 h2
    have : k - A.length = 0 ∨ k - A.length = 1 := by omega
    rcases this with e | e
    ·rw [e] at hz
     cases hz
     have hk : k = i := by omega
     subst hk
     exact okN_up h.at_y fun a ha => by have := (us_ok h.at_y a ha).2; have := h.no a ha; omega
    ·rw [e] at hz
     cases hz
     have hk : k = i + 1 := by omega
     subst hk
     exact okN_up h.at_x fun a ha => by have := (us_ok h.at_x a ha).2; omega
  ·rename_i h1
   rw [List.getElem?_map] at hz
   obtain ⟨w, hw, rfl⟩ := Option.map_eq_some_iff.1 hz
   have := h.at_B hw
   rw [show i + 2 + (k - (A.length + 2)) = k by omega] at this
   exact okN_ren this (by omega)
 ·refine h.usL.nodup_iff.2 ?_
  rw [List.nodup_iff_pairwise_ne, List.pairwise_map]
  exact (List.nodup_iff_pairwise_ne.1 h.good.nd).imp fun hab e => hab (exI_inj e)
 ·rw [h.usL.mem_iff, List.mem_map]
  rw [hlen] at hj
  have hB : 0 < B.length := List.length_pos_iff.2 h.ne
  have hj' : exN i j + 1 < (A ++ [x, y] ++ B).length := by
   simp only [List.length_append, List.length_cons, List.length_nil] at hj ⊢
   unfold exN
   split
   ·omega
   ·split <;> omega
  exact ⟨_, h.good.all _ hj', by rw [← exI_nat, exI_exI]⟩
theorem ren_low {z : Nd} {k : Nat} (h : okN k z) (hl : ∀ a ∈ us z, a < (i : Int)) : renN i z = z := by
 obtain ⟨zk, lo, hi, a, b⟩ := z
 rcases ar_kinds h.1 with q | q | q | q | q
 all_goals simp only at q
 all_goals subst q
 ·simp [renN]
 ·simp [renN]
 ·have h1 := hl a (by rw [us_two (.inl rfl)]; simp)
  have h2 := hl b (by rw [us_two (.inl rfl)]; simp)
  simp [renN, exI_low h1, exI_low h2]
 ·have h1 := hl a (by rw [us_two (.inr rfl)]; simp)
  have h2 := hl b (by rw [us_two (.inr rfl)]; simp)
  simp [renN, exI_low h1, exI_low h2]
 ·have h1 := hl a (by rw [us_one rfl]; simp)
  simp [renN, exI_low h1]
theorem Swp.get (h : Swp A x y B i) {k : Nat} {z : Nd} (hz : (A ++ [x, y] ++ B)[k]? = some z) : (swL i A x y B)[exN i k]? = some (renN i z) := by
 have hl := h.len
 unfold swL
 rw [List.getElem?_append, List.getElem?_append] at hz
 simp only [List.length_append, List.length_cons, List.length_nil] at hz
 split at hz
 ·split at hz
  ·rename_i h1 h2
   have ek : exN i k = k := by unfold exN; rw [if_neg (by omega), if_neg (by omega)]
   have hk := h.at_A hz
   rw [ek, ren_low hk fun a ha => by have := (us_ok hk a ha).2; omega, List.append_assoc, List.getElem?_append_left h2]
   exact hz
  ·rename_i h1 h2
   have : k - A.length = 0 ∨ k - A.length = 1 := by omega
   rcases this with e | e
   ·rw [e] at hz
    cases hz
    have hk : k = i := by omega
    subst hk
    have ek : exN k k = k + 1 := by unfold exN; rw [if_pos rfl]
    rw [ek, ren_low h.at_x fun a ha => (us_ok h.at_x a ha).2, List.append_assoc, List.getElem?_append_right (by omega), show k + 1 - A.length = 1 by omega]
    rfl
   ·rw [e] at hz
    cases hz
    have hk : k = i + 1 := by omega
    subst hk
    have ek : exN i (i + 1) = i := by unfold exN; rw [if_neg (by omega), if_pos rfl]
    rw [ek, ren_low h.at_y fun a ha => by have := (us_ok h.at_y a ha).2; have := h.no a ha; omega, List.append_assoc, List.getElem?_append_right (by omega), show i - A.length = 0 by omega]
    rfl
 ·rename_i h1
  have ek : exN i k = k := by unfold exN; rw [if_neg (by omega), if_neg (by omega)]
  rw [ek, List.getElem?_append_right (by simp; omega), List.getElem?_map]
  have : k - (A ++ [y, x]).length = k - (A.length + (0 + 1 + 1)) := by simp
  rw [this, hz]
  rfl
theorem Swp.tree (h : Swp A x y B i) {k : Nat} {t : Lt} {ns : List Nat} (ht : TreeAt (A ++ [x, y] ++ B) k t ns) : ∃ t' ns', TreeAt (swL i A x y B) (exN i k) t' ns' ∧ t'.pat = t.pat := by
 induction ht with
 | emp hz hk => exact ⟨_, _, .emp (h.get hz) hk, rfl⟩
 | rng hz hk h1 h2 h3 h4 => exact ⟨_, _, .rng (h.get hz) hk h1 h2 h3 h4, rfl⟩
 | @seq k a b z t u na nb hz hk ha hb _ _ it iu =>
  obtain ⟨t', n1, h1, e1⟩ := it
  obtain ⟨u', n2, h2, e2⟩ := iu
  exact ⟨.seq t' u', _, .seq (h.get hz) hk (by simp only [renN, hk]; rw [ha]; exact exI_nat i a) (by simp only [renN, hk]; rw [hb]; exact exI_nat i b) h1 h2, by rw [Lt.pat, Lt.pat, e1, e2]⟩
 | @alt k a b z t u na nb hz hk ha hb _ _ it iu =>
  obtain ⟨t', n1, h1, e1⟩ := it
  obtain ⟨u', n2, h2, e2⟩ := iu
  exact ⟨.alt t' u', _, .alt (h.get hz) hk (by simp only [renN, hk]; rw [ha]; exact exI_nat i a) (by simp only [renN, hk]; rw [hb]; exact exI_nat i b) h1 h2, by rw [Lt.pat, Lt.pat, e1, e2]⟩
 | @rep k a z t na hz hk ha _ it =>
  obtain ⟨t', n1, h1, e1⟩ := it
  exact ⟨.rep t', _, .rep (h.get hz) hk (by simp only [renN, hk]; rw [ha]; exact exI_nat i a) h1, by rw [Lt.pat, Lt.pat, e1]⟩
theorem Swp.pat (h : Swp A x y B i) : (treeL (swL i A x y B)).pat = (treeL (A ++ [x, y] ++ B)).pat := by
 obtain ⟨ns, h1⟩ := treeL_spec h.good
 obtain ⟨ms, h2⟩ := treeL_spec h.good'
 obtain ⟨t', ns', h3, e⟩ := h.tree h1
 have hB : 0 < B.length := List.length_pos_iff.2 h.ne
 have hl := h.len
 have hlen : (swL i A x y B).length = (A ++ [x, y] ++ B).length := by simp [swL]
 have ek : exN i ((A ++ [x, y] ++ B).length - 1) = (swL i A x y B).length - 1 := by
  rw [hlen]
  simp only [List.length_append, List.length_cons, List.length_nil]
  unfold exN
  rw [if_neg (by omega), if_neg (by omega)]
 rw [ek] at h3
 rw [tree_uniq h2 h3, e]
end
end Go.Proofs.YtnjcgpihfmklfaaDoor
