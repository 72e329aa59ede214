/-
  The diagrams: Support.
-/
import Derived.Test.YtafojmoeaneedaaEm
import Derived.Test.YtafojmoeaneedaaEj
import Derived.Test.YtafojmoeaneedaaFo
import Derived.Test.YtafojmoeaneedaaGg
namespace Go.Proofs.Ytafojmoeaneedaa
open Go Go.Proofs.Try Tr
set_option maxRecDepth 10000

/-! compaction of a sorted list -/
theorem compactUpTo_facts (d : Array Int) (hd : ∀ i j, i ≤ j → j < d.size → d[i]! ≤ d[j]!) : ∀ m, m ≤ d.size →
    (Lib.compactUpTo d m).Pairwise (· < ·) ∧ (∀ x, x ∈ Lib.compactUpTo d m ↔ ∃ j, j < m ∧ d[j]! = x)
  | 0, _ => by simp [Lib.compactUpTo]
  | m + 1, hm => by
    obtain ⟨h1, h2⟩ := compactUpTo_facts d hd m (by omega)
    rw [Lib.compactUpTo_succ]
    by_cases hk : Lib.keeps d m = true
    · rw [if_pos hk]
      refine ⟨List.pairwise_append.2 ⟨h1, List.pairwise_singleton _ _, fun x hx y hy => ?_⟩, fun x => ?_⟩
      · rw [List.mem_singleton.1 hy]
        obtain ⟨j, hj, rfl⟩ := (h2 x).1 hx
        have hne : d[m]! ≠ d[m - 1]! := by
          simp only [Lib.keeps, decide_eq_true_eq] at hk
          exact hk.resolve_left (by omega)
        have a := hd j (m - 1) (by omega) (by omega)
        have b := hd (m - 1) m (by omega) (by omega)
        omega
      · rw [List.mem_append, h2, List.mem_singleton]
        constructor
        · rintro (⟨j, hj, e⟩ | rfl)
          · exact ⟨j, by omega, e⟩
          · exact ⟨m, by omega, rfl⟩
        · rintro ⟨j, hj, e⟩
          by_cases hjm : j < m
          · exact .inl ⟨j, hjm, e⟩
          · exact .inr (by rw [← e, show j = m by omega])
    · rw [if_neg hk, List.append_nil]
      refine ⟨h1, fun x => ?_⟩
      rw [h2]
      have he : 0 < m ∧ d[m]! = d[m - 1]! := by
        simp only [Lib.keeps, decide_eq_true_eq, not_or, ne_eq, Classical.not_not] at hk
        exact ⟨by omega, hk.2⟩
      constructor
      · rintro ⟨j, hj, e⟩; exact ⟨j, by omega, e⟩
      · rintro ⟨j, hj, e⟩
        by_cases hjm : j < m
        · exact ⟨j, hjm, e⟩
        · exact ⟨m - 1, by omega, by rw [← he.2, ← e, show j = m by omega]⟩
/-- What Support makes of the numbers of the conditions. -/
def supL (zs : List Int) : List Int := Lib.compact (sortI zs)
theorem supL_facts (zs : List Int) : (supL zs).Pairwise (· < ·) ∧ ∀ x, x ∈ supL zs ↔ x ∈ zs := by
  have hp : (sortI zs).Perm zs := List.mergeSort_perm _ _
  have hs : (sortI zs).Pairwise (fun x y => decide (x ≤ y) = true) := List.pairwise_mergeSort (le := fun x y : Int => decide (x ≤ y)) (fun a b c h1 h2 => by simp at *; omega) (fun a b => by simp; omega) zs
  have hd : ∀ i j, i ≤ j → j < (sortI zs).toArray.size → (sortI zs).toArray[i]! ≤ (sortI zs).toArray[j]! := fun i j hij hj => by
    have hi : i < (sortI zs).toArray.size := by omega
    rw [getElem!_pos _ i hi, getElem!_pos _ j hj]
    simp only [List.size_toArray] at hj hi
    by_cases e : i = j
    · subst e; exact Int.le_refl _
    · have := List.pairwise_iff_getElem.1 hs i j (by omega) hj (by omega)
      simpa using this
  obtain ⟨h1, h2⟩ := compactUpTo_facts (sortI zs).toArray hd (sortI zs).length (by simp)
  refine ⟨h1, fun x => ?_⟩
  rw [← hp.mem_iff]
  show x ∈ Lib.compactUpTo _ _ ↔ _
  rw [h2, List.mem_iff_getElem]
  constructor
  · rintro ⟨j, hj, e⟩
    exact ⟨j, hj, by rw [← e, getElem!_pos _ j (by simpa using hj)]; simp⟩
  · rintro ⟨j, hj, e⟩
    exact ⟨j, hj, by rw [← e, getElem!_pos _ j (by simpa using hj)]; simp⟩
theorem sorted_unique : ∀ (l m : List Int), l.Pairwise (· < ·) → m.Pairwise (· < ·) → (∀ x, x ∈ l ↔ x ∈ m) → l = m
  | [], [], _, _, _ => rfl
  | [], y :: m, _, _, h => absurd ((h y).2 (by simp)) (by simp)
  | x :: l, [], _, _, h => absurd ((h x).1 (by simp)) (by simp)
  | x :: l, y :: m, hl, hm, h => by
    obtain ⟨a1, a2⟩ := List.pairwise_cons.1 hl
    obtain ⟨b1, b2⟩ := List.pairwise_cons.1 hm
    have e : x = y := by
      rcases List.mem_cons.1 ((h x).1 (by simp)) with e | e
      · exact e
      · rcases List.mem_cons.1 ((h y).2 (by simp)) with e' | e'
        · exact e'.symm
        · have := a1 _ e'; have := b1 _ e; omega
    subst e
    rw [sorted_unique l m a2 b2 fun z => ?_]
    constructor
    · intro hz
      rcases List.mem_cons.1 ((h z).1 (List.mem_cons_of_mem _ hz)) with e | e
      · have := a1 _ hz; omega
      · exact e
    · intro hz
      rcases List.mem_cons.1 ((h z).2 (List.mem_cons_of_mem _ hz)) with e | e
      · have := b1 _ hz; omega
      · exact e

noncomputable def supD (a : Dia) : List Int := if chk a ≠ 0 then [] else supL (a.1.map (·.v))
theorem zr3' : tzero prog 3 = some (vi 0) := zr3
section
variable {F : PH} {v : Array Value} {a : Dia}
theorem support_spec (ha : DV F v a) : Spec prog 56 #[.agg v] F fun r F' => ∃ s, r = Sl.v s ∧ RdS F' s 1 ((supD a).map vi) ∧ F.le F' := by
  have ha' := ha
  obtain ⟨s, rfl, hr⟩ := ha
  refine c56 ?_
  unfold b56
  intro b1 hb1
  refine atI ?_
  have l1 := le_set_fresh (.cells #[s.v, vi a.2] 28) hb1
  have q1 := set_eq F b1 (.cells #[s.v, vi a.2] 28)
  generalize F.set b1 (.cells #[s.v, vi a.2] 28) = F1 at *
  refine ⟨_, rfl, row_whole q1, ?_⟩
  refine (check_spec (ha'.le l1)).mono ?_
  rintro _ F2 ⟨rfl, l2⟩
  replace q1 := l2 _ _ q1
  replace l2 := l1.trans l2
  refine ⟨_, rfl, fun hk => ⟨Sl.nil, rfl, by unfold supD; rw [if_pos hk]; exact RdS.nil _ _, l2⟩, fun hk => ?_⟩
  have hk0 : chk a = 0 := by omega
  obtain ⟨_, _, hlen4⟩ := chk0 hk0
  have hr2 := hr.le l2
  have hlen := hr2.blen
  have hsup : supD a = supL (a.1.map (·.v)) := by unfold supD; rw [if_neg hk]
  rw [hsup]
  refine ⟨s, by rw [cell_eq q1]; rfl, ?_⟩
  refine ⟨fun m out i F' => ∃ k : Nat, i = k ∧ k ≤ a.1.length ∧ m = a.1.length - k ∧ F2.le F' ∧ OwnS F' 3 1 out (((a.1.take k).map (·.v)).map vi) ∧ ∀ b, out.base = some b → F2 b.block = none, a.1.length,
    ⟨0, rfl, by omega, rfl, PH.le_rfl, .inl ⟨rfl, by simp⟩, fun b h => by cases h⟩, ?_⟩
  rintro m out i F3 ⟨k, rfl, hk', rfl, l3, ho, hn⟩
  unfold b56L1
  have hol : out.len = k := by
    have := ho.rd.len
    simp at this
    omega
  refine ⟨fun hlt => ?_, fun hge => ?_⟩
  · have hka : k < a.1.length := by omega
    obtain ⟨p, hp, hrow, _⟩ := rdb (hr2.le l3) (List.getElem?_eq_getElem hka)
    refine ⟨p, hp, by omega, hlt, barr a.1[k], rfl, by simpa using hrow, ?_⟩
    intro b5 hb5
    refine atI ?_
    refine stW (set_eq _ _ _) rfl rfl (st_barr _) ?_
    rw [set_twice]
    have l5 := le_set_fresh (.cells (barr a.1[k]) 72) hb5
    have q5 := set_eq F3 b5 (.cells (barr a.1[k]) 72)
    have ho5 : OwnS (F3.set b5 (.cells (barr a.1[k]) 72)) 3 1 out (((a.1.take k).map (·.v)).map vi) := ho.keep fun x hx => by
      obtain ⟨cur, hcur⟩ := ho.elem hx
      exact set_ne _ _ (ne_of_fresh hb5 hcur)
    generalize F3.set b5 (.cells (barr a.1[k]) 72) = F5 at *
    refine ⟨a.1[k].v, by rw [cell_eq q5]; rfl, ?_⟩
    intro b19 hb19
    refine atI ?_
    have l19 := le_set_fresh (.cells #[vi a.1[k].v] 3) hb19
    have q19 := set_eq F5 b19 (.cells #[vi a.1[k].v] 3)
    have ho19 : OwnS (F5.set b19 (.cells #[vi a.1[k].v] 3)) 3 1 out (((a.1.take k).map (·.v)).map vi) := ho5.keep fun x hx => by
      obtain ⟨cur, hcur⟩ := ho5.elem hx
      exact set_ne _ _ (ne_of_fresh hb19 hcur)
    generalize F5.set b19 (.cells #[vi a.1[k].v] 3) = F6 at *
    refine own_app (F0 := F2) (bytes := 8) (z := vi 0) (news := [vi a.1[k].v]) underlying68 sz3 zr3' rfl (by omega) (l3.trans (l5.trans l19)) ho19 hn (RdS.new q19 rfl rfl (Nat.le_refl _)) (by simp [storable]) (by simp only; omega) (by simp only; omega) ?_
    intro s' F7 h1 h2 h3 h4 h5 h6
    refine ⟨s', rfl, a.1.length - (k + 1), by omega, k + 1, w64s (by omega), by omega, rfl, h1, ?_, h4⟩
    rw [List.take_succ_eq_append_getElem hka, List.map_append, List.map_append]
    exact h2
  · obtain rfl : k = a.1.length := by omega
    rw [List.take_length] at ho
    unfold b56j1
    refine (sort_spec ho (by simp; omega)).mono ?_
    rintro _ F4 ⟨rfl, ho4, hk4⟩
    have l4 : F2.le F4 := fun x o hx => hk4 x o (fun b hb e => by rw [← e, hn b hb] at hx; cases hx) (l3 _ _ hx)
    refine ⟨rfl, (compact_spec ho4 (by simp [List.length_mergeSort]; omega)).mono ?_⟩
    rintro _ F5 ⟨s', rfl, hr5, hk5⟩
    exact ⟨s', rfl, s', rfl, hr5, l2.trans fun x o hx => hk5 x o (fun b hb e => by rw [← e, hn b hb] at hx; cases hx) (l4 _ _ hx)⟩
end

/-! the conditions of a tree -/
def has (v : Nat) : Tr → Prop
  | leaf _ => False
  | node w l h => w = v ∨ has v l ∨ has v h
theorem has_mk {v w : Nat} {l h : Tr} (hm : has v (mk w l h)) : w = v ∨ has v l ∨ has v h := by
  unfold mk at hm
  split at hm
  · exact .inr (.inl hm)
  · exact hm
theorem has_fx {w : Nat} {b : Bool} : ∀ (t : Tr), t.ok → ¬ has w (fx w b t)
  | leaf x, _ => by rw [fx_leaf]; exact id
  | node v l h, hk => by
    have hk' := hk
    obtain ⟨h0, h1, h2, h3, h4, h5⟩ := hk
    rw [fx_node hk']
    split
    · split
      · exact has_fx h h5
      · exact has_fx l h4
    · rename_i hv
      intro hm
      rcases has_mk hm with e | e | e
      · exact hv e
      · exact has_fx l h4 e
      · exact has_fx h h5 e
theorem ev_nohas {w : Nat} {b : Bool} : ∀ (t : Tr), ¬ has w t → ∀ c : Cf, t.ev (c.set w b) = t.ev c
  | leaf _, _, _ => rfl
  | node v l h, hn, c => by
    simp only [has, not_or] at hn
    simp only [Tr.ev, ev_nohas l hn.2.1 c, ev_nohas h hn.2.2 c]
    have : (c.set w b) v = c v := by unfold Cf.set; rw [if_neg hn.1]
    rw [this]
theorem fx_same {w : Nat} {t : Tr} (ht : t.ok) : fx w true t = fx w false t ↔ ¬ has w t := by
  constructor
  · intro e
    have h1 := (fx_facts w true ht).2.2
    have h0 := (fx_facts w false ht).2.2
    have : t = fx w false t := eq_of_ev ht (fx_facts w false ht).1 fun c => by
      rw [h0]
      cases hc : c w with
      | false =>
        congr 1
        funext i
        unfold Cf.set
        split
        · rename_i hi; rw [hi, hc]
        · rfl
      | true =>
        have e1 : t.ev (c.set w true) = t.ev (c.set w false) := by rw [← h1, ← h0, e]
        rw [← e1]
        congr 1
        funext i
        unfold Cf.set
        split
        · rename_i hi; rw [hi, hc]
        · rfl
    rw [this]
    exact has_fx t ht
  · intro hn
    have : ∀ b, fx w b t = t := fun b => eq_of_ev (fx_facts w b ht).1 ht fun c => by rw [(fx_facts w b ht).2.2, ev_nohas t hn]
    rw [this, this]
theorem has_vis {v : Nat} : ∀ (t : Tr) (S : List Tr), ∀ x ∈ vis t S, x ∈ S ∨ (x.top = v → has v t)
  | leaf _, _ => fun x hx => .inl hx
  | node w l r, S => by
    unfold vis
    split
    · exact fun x hx => .inl hx
    · intro x hx
      rcases List.mem_append.1 hx with hx | hx
      · rcases has_vis r _ x hx with h | h
        · rcases has_vis l S x h with h | h
          · exact .inl h
          · exact .inr fun e => .inr (.inl (h e))
        · exact .inr fun e => .inr (.inr (h e))
      · rw [List.mem_singleton.1 hx]
        exact .inr fun e => .inl e
theorem has_inn {T : List Tr} (hT : Cl T) {v : Nat} : ∀ (t : Tr), inn T t → has v t → ∃ x ∈ T, x.top = v
  | leaf _, _, h => by cases h
  | node w l r, hi, h => by
    obtain ⟨il, ir⟩ := hT.inn_kids hi
    rcases h with e | h | h
    · exact ⟨_, inn_mem hi rfl, e⟩
    · exact has_inn hT l il h
    · exact has_inn hT r ir h
theorem has_subs {v : Nat} {t : Tr} (ht : t.ok) : has v t ↔ ∃ x ∈ subs t, x.top = v := by
  constructor
  · exact fun h => has_inn (subs_cl ht) t (subs_inn ht) h
  · rintro ⟨x, hx, e⟩
    rcases has_vis (v := v) t [] x hx with h | h
    · cases h
    · exact h e
open Classical in
/-- The conditions of a tree, ascending. -/
noncomputable def hasL (t : Tr) (n : Nat) : List Nat := (List.range n).filter fun i => decide (has i t)
theorem supL_tree {t : Tr} (ht : t.ok) : supL ((dia t).1.map (·.v)) = (hasL t 64).map fun (i : Nat) => (i : Int) := by
  obtain ⟨h1, h2⟩ := supL_facts ((dia t).1.map (·.v))
  refine sorted_unique _ _ h1 ?_ fun x => ?_
  · rw [List.pairwise_map]
    exact ((List.pairwise_lt_range).filter _).imp fun h => by omega
  · rw [h2]
    show x ∈ ((brs (subs t)).map (·.v)) ↔ _
    unfold brs
    simp only [List.map_map, List.mem_map, Function.comp, hasL, List.mem_filter, List.mem_range, decide_eq_true_eq]
    constructor
    · rintro ⟨u, hu, rfl⟩
      obtain ⟨hok, v, l, r, rfl, _⟩ := (subs_cl ht).mem u hu
      exact ⟨v, ⟨hok.1, (has_subs ht).2 ⟨_, hu, rfl⟩⟩, rfl⟩
    · rintro ⟨v, ⟨_, hv⟩, rfl⟩
      obtain ⟨u, hu, e⟩ := (has_subs ht).1 hv
      obtain ⟨hok, w, l, r, rfl, _⟩ := (subs_cl ht).mem u hu
      have e' : w = v := e
      subst e'
      exact ⟨_, hu, rfl⟩
end Go.Proofs.Ytafojmoeaneedaa
