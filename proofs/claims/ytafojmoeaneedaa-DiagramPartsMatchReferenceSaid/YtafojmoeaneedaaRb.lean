/-
  Lists of branches that hold trees, plain: every list of branches in good order is the list of a closed list of trees; the walk that numbers them.
-/
import Derived.Test.YtafojmoeaneedaaRa
namespace Go.Proofs.Ytafojmoeaneedaa
open Tr

/-- A branch: condition and two numbers. -/
structure Br where
  v : Int
  l : Int
  h : Int
deriving DecidableEq

/-- A tree that is a constant or in the list. -/
def inn (S : List Tr) (t : Tr) : Prop := t.isL = true ∨ t ∈ S

def num (S : List Tr) : Tr → Nat
  | leaf b => if b then 1 else 0
  | node v l h => S.idxOf (node v l h) + 2

def br (S : List Tr) : Tr → Br
  | leaf _ => ⟨0, 0, 0⟩
  | node v l h => ⟨(v : Int), (num S l : Int), (num S h : Int)⟩

def brs (S : List Tr) : List Br := S.map (br S)

/-- Lists of trees, each of which comes behind its parts. -/
inductive Cl : List Tr → Prop
  | nil : Cl []
  | snoc {S : List Tr} {v : Nat} {l h : Tr} : Cl S → inn S l → inn S h → (node v l h).ok → node v l h ∉ S → Cl (S ++ [node v l h])

theorem inn_append {S X : List Tr} {t : Tr} (h : inn S t) : inn (S ++ X) t := h.imp id fun h => List.mem_append_left X h
theorem inn_leaf (S : List Tr) (b : Bool) : inn S (leaf b) := .inl rfl
theorem inn_mem {S : List Tr} {t : Tr} (h : inn S t) (hn : t.isL = false) : t ∈ S := h.resolve_left (by rw [hn]; exact Bool.false_ne_true)

theorem num_append {S X : List Tr} {t : Tr} (h : inn S t) : num (S ++ X) t = num S t := by
  cases t with
  | leaf b => rfl
  | node v l r =>
    have hm := inn_mem h rfl
    simp only [num, List.idxOf_append, hm, if_true]

namespace Cl
theorem mem {S : List Tr} (h : Cl S) : ∀ t ∈ S, t.ok ∧ ∃ v l r, t = node v l r ∧ inn S l ∧ inn S r := by
  induction h with
  | nil => intro t ht; cases ht
  | @snoc S v l r hS hl hr hk hn ih =>
    intro t ht
    rcases List.mem_append.1 ht with ht | ht
    · obtain ⟨h1, v', l', r', h2, h3, h4⟩ := ih t ht
      exact ⟨h1, v', l', r', h2, inn_append h3, inn_append h4⟩
    · obtain rfl := List.mem_singleton.1 ht
      exact ⟨hk, v, l, r, rfl, inn_append hl, inn_append hr⟩
theorem nodup {S : List Tr} (h : Cl S) : S.Nodup := by
  induction h with
  | nil => exact List.nodup_nil
  | @snoc S v l r hS hl hr hk hn ih =>
    rw [List.nodup_append]
    refine ⟨ih, by simp, ?_⟩
    intro a ha b hb
    rw [List.mem_singleton] at hb
    subst hb
    rintro rfl
    exact hn ha
theorem notLeaf {S : List Tr} (h : Cl S) {t : Tr} (ht : t ∈ S) : t.isL = false := by
  obtain ⟨_, v, l, r, rfl, _⟩ := h.mem t ht
  rfl
theorem inn_ok {S : List Tr} (h : Cl S) {t : Tr} (ht : inn S t) : t.ok := by
  cases t with
  | leaf b => trivial
  | node v l r => exact (h.mem _ (inn_mem ht rfl)).1
theorem inn_kids {S : List Tr} (h : Cl S) {v : Nat} {l r : Tr} (ht : inn S (node v l r)) : inn S l ∧ inn S r := by
  obtain ⟨_, v', l', r', e, h3, h4⟩ := h.mem _ (inn_mem ht rfl)
  cases e
  exact ⟨h3, h4⟩
theorem inn_lo {S : List Tr} (h : Cl S) {t : Tr} (ht : inn S t) (v : Nat) : inn S (lo v t) := by
  cases t with
  | leaf b => exact ht
  | node w l r =>
    simp only [lo]
    split
    · exact (h.inn_kids ht).1
    · exact ht
theorem inn_hi {S : List Tr} (h : Cl S) {t : Tr} (ht : inn S t) (v : Nat) : inn S (hi v t) := by
  cases t with
  | leaf b => exact ht
  | node w l r =>
    simp only [hi]
    split
    · exact (h.inn_kids ht).2
    · exact ht
end Cl

theorem num_le {S : List Tr} {t : Tr} (h : inn S t) : num S t ≤ S.length + 1 := by
  cases t with
  | leaf b => simp only [num]; split <;> omega
  | node v l r =>
    have := List.idxOf_lt_length_of_mem (inn_mem h rfl)
    simp only [num]; omega
theorem num_ge {S : List Tr} {t : Tr} (h : t.isL = false) : 2 ≤ num S t := by
  cases t with
  | leaf b => cases h
  | node v l r => simp only [num]; omega
theorem num_lt2 {S : List Tr} {t : Tr} (h : num S t < 2) : t.isL = true := by
  cases t with
  | leaf b => rfl
  | node v l r => simp only [num] at h; omega
theorem num_leaf_le (S : List Tr) (b : Bool) : num S (leaf b) ≤ 1 := by simp only [num]; split <;> omega
theorem num_leaf (S : List Tr) (b : Bool) : num S (leaf b) = if b then 1 else 0 := rfl

theorem num_get {S : List Tr} {t : Tr} (h : t ∈ S) (hl : t.isL = false) : S[num S t - 2]? = some t := by
  cases t with
  | leaf b => cases hl
  | node v l r =>
    have h1 := List.idxOf_lt_length_of_mem h
    simp only [num, Nat.add_sub_cancel]
    rw [List.getElem?_eq_getElem h1, List.getElem_idxOf]

theorem num_inj {S : List Tr} {t u : Tr} (ht : inn S t) (hu : inn S u) (h : num S t = num S u) : t = u := by
  cases ht' : t.isL with
  | true =>
    cases hu' : u.isL with
    | true =>
      cases t with
      | node _ _ _ => cases ht'
      | leaf a =>
        cases u with
        | node _ _ _ => cases hu'
        | leaf b =>
          simp only [num] at h
          cases a <;> cases b <;> simp at h ⊢
    | false =>
      have h1 := num_ge (S := S) hu'
      cases t with
      | node _ _ _ => cases ht'
      | leaf a => have h2 : num S (leaf a) ≤ 1 := num_leaf_le S a; omega
  | false =>
    cases hu' : u.isL with
    | true =>
      have h1 := num_ge (S := S) ht'
      cases u with
      | node _ _ _ => cases hu'
      | leaf a => have h2 : num S (leaf a) ≤ 1 := num_leaf_le S a; omega
    | false =>
      have h1 := num_get (inn_mem ht ht') ht'
      have h2 := num_get (inn_mem hu hu') hu'
      rw [h, h2] at h1
      exact (Option.some.inj h1).symm

theorem num_of_get {S : List Tr} (hS : Cl S) {k : Nat} {t : Tr} (h : S[k]? = some t) : num S t = k + 2 := by
  have hk : k < S.length := (List.getElem?_eq_some_iff.1 h).1
  have hm : t ∈ S := List.mem_of_getElem? h
  obtain ⟨_, v, l, r, rfl, _⟩ := hS.mem t hm
  have h1 := List.idxOf_lt_length_of_mem hm
  have h2 : S[S.idxOf (node v l r)] = S[k] := by
    rw [List.getElem_idxOf]
    exact (List.getElem?_eq_some_iff.1 h).2.symm
  have := (List.getElem_inj hS.nodup).1 h2
  simp only [num]
  omega

/-- The tree of a number. -/
def tr (S : List Tr) (n : Nat) : Tr :=
  if n = 0 then leaf false else if n = 1 then leaf true else S.getD (n - 2) (leaf false)
theorem tr_inn {S : List Tr} {n : Nat} (h : n ≤ S.length + 1) : inn S (tr S n) := by
  unfold tr
  split
  · exact inn_leaf _ _
  · split
    · exact inn_leaf _ _
    · refine .inr ?_
      rw [List.getD_eq_getElem?_getD, List.getElem?_eq_getElem (by omega)]
      exact List.getElem_mem _
theorem num_tr {S : List Tr} (hS : Cl S) {n : Nat} (h : n ≤ S.length + 1) : num S (tr S n) = n := by
  unfold tr
  split
  · rename_i e; subst e; rfl
  · split
    · rename_i e; subst e; rfl
    · have hk : n - 2 < S.length := by omega
      have := num_of_get hS (k := n - 2) (t := S[n - 2]) (List.getElem?_eq_getElem hk)
      rw [List.getD_eq_getElem?_getD, List.getElem?_eq_getElem hk]
      simp only [Option.getD_some]
      omega
theorem tr_num {S : List Tr} (hS : Cl S) {t : Tr} (h : inn S t) : tr S (num S t) = t :=
  num_inj (tr_inn (num_le h)) h (num_tr hS (num_le h))

/-! the branches -/
theorem br_append {S X : List Tr} (hS : Cl S) {t : Tr} (h : t ∈ S) : br (S ++ X) t = br S t := by
  obtain ⟨_, v, l, r, rfl, hl, hr⟩ := hS.mem t h
  simp only [br, num_append hl, num_append hr]
theorem brs_append {S X : List Tr} (hS : Cl S) : brs (S ++ X) = brs S ++ X.map (br (S ++ X)) := by
  unfold brs
  rw [List.map_append]
  congr 1
  exact List.map_congr_left fun t ht => br_append hS ht
theorem brs_snoc {S : List Tr} (hS : Cl S) {v : Nat} {l r : Tr} (hl : inn S l) (hr : inn S r) : brs (S ++ [node v l r]) = brs S ++ [⟨(v : Int), (num S l : Int), (num S r : Int)⟩] := by
  rw [brs_append hS]
  simp only [List.map_cons, List.map_nil, br, num_append hl, num_append hr]
theorem brs_length (S : List Tr) : (brs S).length = S.length := by simp [brs]
theorem brs_get {S : List Tr} {k : Nat} {t : Tr} (h : S[k]? = some t) : (brs S)[k]? = some (br S t) := by simp [brs, h]
theorem br_inj {S : List Tr} (hS : Cl S) {t u : Tr} (ht : t ∈ S) (hu : u ∈ S) (h : br S t = br S u) : t = u := by
  obtain ⟨_, v, l, r, rfl, hl, hr⟩ := hS.mem t ht
  obtain ⟨_, v', l', r', rfl, hl', hr'⟩ := hS.mem u hu
  simp only [br, Br.mk.injEq] at h
  obtain ⟨h1, h2, h3⟩ := h
  rw [num_inj hl hl' (by omega), num_inj hr hr' (by omega), show v = v' by omega]
theorem brs_inj {S T : List Tr} (hS : Cl S) : Cl T → brs S = brs T → S = T := by
  intro hT
  induction hS generalizing T with
  | nil =>
    intro h
    cases T with
    | nil => rfl
    | cons a b => have := congrArg List.length h; simp [brs] at this
  | @snoc S v l r hS hl hr hk hn ih =>
    intro h
    cases hT with
    | nil => have := congrArg List.length h; simp [brs] at this
    | @snoc T v' l' r' hT hl' hr' hk' hn' =>
      rw [brs_snoc hS hl hr, brs_snoc hT hl' hr'] at h
      obtain ⟨h1, h2⟩ := List.append_inj' h rfl
      obtain rfl := ih hT h1
      simp only [List.cons.injEq, Br.mk.injEq, and_true] at h2
      obtain ⟨h3, h4, h5⟩ := h2
      rw [num_inj hl hl' (by omega), num_inj hr hr' (by omega), show v = v' by omega]

/-! the walk -/
def vis : Tr → List Tr → List Tr
  | leaf _, S => S
  | node v l h, S => if node v l h ∈ S then S else vis h (vis l S) ++ [node v l h]

theorem vis_inn {S : List Tr} {t : Tr} (h : inn S t) : vis t S = S := by
  cases t with
  | leaf b => rfl
  | node v l r => unfold vis; rw [if_pos (inn_mem h rfl)]

theorem vis_facts : ∀ (t : Tr) (S : List Tr), t.ok → Cl S → Cl (vis t S) ∧ inn (vis t S) t ∧ (∃ X, vis t S = S ++ X ∧ ∀ x ∈ X, x.sz ≤ t.sz)
  | leaf b, S, _, hS => ⟨hS, inn_leaf _ _, [], by simp [vis], fun x h => by cases h⟩
  | node v l r, S, hk, hS => by
    unfold vis
    split
    · rename_i hm
      exact ⟨hS, .inr hm, [], by simp, fun x h => by cases h⟩
    · rename_i hm
      obtain ⟨h1, h2, X, h3, h4⟩ := vis_facts l S hk.2.2.2.2.1 hS
      obtain ⟨g1, g2, Y, g3, g4⟩ := vis_facts r (vis l S) hk.2.2.2.2.2 h1
      have hn : node v l r ∉ vis r (vis l S) := by
        rw [g3, h3]
        intro hc
        rcases List.mem_append.1 hc with hc | hc
        · rcases List.mem_append.1 hc with hc | hc
          · exact hm hc
          · have := h4 _ hc; simp only [sz] at this; omega
        · have := g4 _ hc; simp only [sz] at this; omega
      refine ⟨.snoc g1 (by rw [g3]; exact inn_append h2) g2 hk hn, .inr (by simp), X ++ Y ++ [node v l r], by rw [g3, h3]; simp, fun x hx => ?_⟩
      simp only [List.mem_append, List.mem_singleton, or_assoc] at hx
      rcases hx with hx | hx | hx
      · have := h4 x hx; simp only [sz]; omega
      · have := g4 x hx; simp only [sz]; omega
      · rw [hx]; exact Nat.le_refl _

/-- The diagram of a tree. -/
def subs (t : Tr) : List Tr := vis t []
theorem subs_cl {t : Tr} (h : t.ok) : Cl (subs t) := (vis_facts t [] h .nil).1
theorem subs_inn {t : Tr} (h : t.ok) : inn (subs t) t := (vis_facts t [] h .nil).2.1
theorem subs_sz {t : Tr} (h : t.ok) {x : Tr} (hx : x ∈ subs t) : x.sz ≤ t.sz := by
  obtain ⟨_, _, X, h1, h2⟩ := vis_facts t [] h .nil
  unfold subs at hx
  rw [h1, List.nil_append] at hx
  exact h2 x hx

/-- A diagram: branches and root. -/
abbrev Dia := List Br × Int
def dia (t : Tr) : Dia := (brs (subs t), (num (subs t) t : Int))
theorem dia_inj {t u : Tr} (ht : t.ok) (hu : u.ok) (h : dia t = dia u) : t = u := by
  unfold dia at h
  simp only [Prod.mk.injEq] at h
  obtain ⟨h1, h2⟩ := h
  have h3 := brs_inj (subs_cl ht) (subs_cl hu) h1
  rw [← h3] at h2
  refine num_inj (subs_inn ht) ?_ (by omega)
  rw [h3]
  exact subs_inn hu

/-! how many branches -/
/-- The number of branches of a tree, each counted as often as it is reached. -/
def cnt : Tr → Nat
  | leaf _ => 0
  | node _ l h => cnt l + cnt h + 1
theorem vis_length : ∀ (t : Tr) (S : List Tr), (vis t S).length ≤ S.length + cnt t
  | leaf _, _ => Nat.le_refl _
  | node v l r, S => by
    unfold vis
    split
    · omega
    · have h1 := vis_length l S
      have h2 := vis_length r (vis l S)
      simp only [List.length_append, List.length_singleton, cnt]
      omega
theorem subs_length (t : Tr) : (subs t).length ≤ cnt t := by have := vis_length t []; simpa [subs] using this
end Go.Proofs.Ytafojmoeaneedaa
