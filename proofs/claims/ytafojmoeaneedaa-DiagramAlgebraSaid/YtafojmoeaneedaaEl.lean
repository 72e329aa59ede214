/-
  The diagrams: restrictions.
-/
import Derived.Test.YtafojmoeaneedaaEk
namespace Go.Proofs.Ytafojmoeaneedaa
open Go Go.Proofs.Try Tr
set_option maxRecDepth 10000

theorem set_set_ne (c : Cf) {v w : Nat} (h : v ≠ w) (b : Bool) : (c.set w b) v = c v := by simp [Cf.set, h]
theorem ex_fx (w : Nat) (b : Bool) : ∀ (t : Tr), t.ok → ∃ u : Tr, u.ok ∧ t.top ≤ u.top ∧ ∀ c, u.ev c = t.ev (c.set w b)
  | leaf x, _ => ⟨leaf x, trivial, Nat.le_refl _, fun _ => rfl⟩
  | node v l h, ⟨h0, h1, h2, h3, h4, h5⟩ => by
    obtain ⟨ul, l1, l2, l3⟩ := ex_fx w b l h4
    obtain ⟨uh, g1, g2, g3⟩ := ex_fx w b h h5
    by_cases hv : v = w
    · subst hv
      cases b with
      | true => exact ⟨uh, g1, by show v ≤ uh.top; omega, fun c => by rw [g3]; simp [Tr.ev, Cf.set]⟩
      | false => exact ⟨ul, l1, by show v ≤ ul.top; omega, fun c => by rw [l3]; simp [Tr.ev, Cf.set]⟩
    · refine ⟨mk v ul uh, ok_mk h0 (by omega) (by omega) l1 g1, (show v ≤ (mk v ul uh).top from top_mk (by omega)), fun c => ?_⟩
      rw [ev_mk, l3, g3]
      simp only [Tr.ev, set_set_ne c hv b]
/-- The restriction of a tree. -/
noncomputable def fx (w : Nat) (b : Bool) (t : Tr) : Tr := can fun c => t.ev (c.set w b)
theorem fx_facts (w : Nat) (b : Bool) {t : Tr} (ht : t.ok) : (fx w b t).ok ∧ t.top ≤ (fx w b t).top ∧ ∀ c, (fx w b t).ev c = t.ev (c.set w b) := by
  obtain ⟨u, h1, h2, h3⟩ := ex_fx w b t ht
  have : fx w b t = u := can_eq h1 h3
  rw [this]
  exact ⟨h1, h2, h3⟩
theorem fx_leaf (w : Nat) (b x : Bool) : fx w b (leaf x) = leaf x := can_eq trivial fun _ => rfl
theorem fx_node {w : Nat} {b : Bool} {v : Nat} {l h : Tr} (hk : (node v l h).ok) : fx w b (node v l h) = if v = w then (if b = true then fx w b h else fx w b l) else mk v (fx w b l) (fx w b h) := by
  obtain ⟨h0, h1, h2, h3, h4, h5⟩ := hk
  obtain ⟨l1, l2, l3⟩ := fx_facts w b h4
  obtain ⟨g1, g2, g3⟩ := fx_facts w b h5
  by_cases hv : v = w
  · subst hv
    rw [if_pos rfl]
    cases b with
    | true => exact can_eq g1 fun c => by rw [if_pos rfl, g3]; simp [Tr.ev, Cf.set]
    | false => exact can_eq l1 fun c => by rw [if_neg (by simp), l3]; simp [Tr.ev, Cf.set]
  · rw [if_neg hv]
    refine can_eq (ok_mk h0 (by omega) (by omega) l1 g1) fun c => ?_
    rw [ev_mk, l3, g3]
    simp only [Tr.ev, set_set_ne c hv b]

theorem BD.pin {F0 F : PH} {b m x : Nat} {c : Array Value} {e : TypeId} {fr : Nat × Nat} {S : List Tr} (h : BD F0 F b m S) (hx : F x = some (.cells c e fr)) (h1 : e ≠ 84) (h2 : e ≠ 72) : BD (F0.set x (.cells c e fr)) F b m S := by
  obtain ⟨k1, k2, k3, k4, ⟨s, k5, k6, k7⟩, o', k8, k9⟩ := h
  refine ⟨fun y oy hy => ?_, k2, ?_, ?_, ⟨s, k5, k6, fun a ha => ?_⟩, o', k8, k9⟩
  · by_cases hyx : y = x
    · subst hyx; rw [set_eq] at hy; rw [hx]; exact hy
    · rw [set_ne _ _ hyx] at hy; exact k1 _ _ hy
  · rw [set_ne _ _ (fun e' => by rw [e', hx] at k5; simp at k5; exact h1 k5.2.1)]; exact k3
  · rw [set_ne _ _ (fun e' => by
      obtain ⟨es, cl, L, rfl, _⟩ := k9
      rw [e', hx] at k8; simp at k8)]; exact k4
  · obtain ⟨cur, hcur⟩ := k6.elem ha
    rw [set_ne _ _ (fun e' => by rw [e', hx] at hcur; simp at hcur; exact h2 hcur.2.1)]
    exact k7 a ha
theorem BD.setCells {F0 F : PH} {b m x : Nat} {c : Array Value} {e : TypeId} {fr : Nat × Nat} {o : Obj} {S : List Tr} (h : BD F0 F b m S) (h0 : F0 x = none) (hx : F x = some (.cells c e fr)) (h1 : e ≠ 84) (h2 : e ≠ 72) : BD F0 (F.set x o) b m S := by
  obtain ⟨k1, k2, k3, k4, ⟨s, k5, k6, k7⟩, o', k8, k9⟩ := h
  refine ⟨le_set_new k1 h0, k2, k3, k4, ⟨s, ?_, k6.keep fun a ha => set_ne _ _ (fun e' => ?_), k7⟩, o', ?_, k9⟩
  · rw [set_ne _ _ (fun e' => by rw [e', hx] at k5; simp at k5; exact h1 k5.2.1)]; exact k5
  · obtain ⟨cur, hcur⟩ := k6.elem ha
    rw [e', hx] at hcur; simp at hcur; exact h2 hcur.2.1
  · rw [set_ne _ _ (fun e' => by
      obtain ⟨es, cl, L, rfl, _⟩ := k9
      rw [e', hx] at k8; simp at k8)]; exact k8

/-- The numbers so far. -/
noncomputable def fxA (w : Nat) (b : Bool) (T S : List Tr) (k : Nat) : List Value := (List.range (T.length + 2)).map fun j => if j < k + 2 then vi (num S (fx w b (tr T j))) else vi 0
theorem fxA_get {w : Nat} {b : Bool} {T S : List Tr} {k j : Nat} (h : j < k + 2) (hk : k ≤ T.length) : (fxA w b T S k)[j]? = some (vi (num S (fx w b (tr T j)))) := by
  unfold fxA
  rw [List.getElem?_map, List.getElem?_range (by omega)]
  simp [h]
theorem fxA_zero (w : Nat) (b : Bool) (T : List Tr) : (List.replicate (T.length + 2) (vi 0)).set 1 (vi 1) = fxA w b T [] 0 := by
  apply List.ext_getElem?
  intro j
  unfold fxA
  rw [List.getElem?_map, List.getElem?_set]
  have h0 : tr T 0 = leaf false := rfl
  have h1 : tr T 1 = leaf true := rfl
  by_cases hj : j < T.length + 2
  · rw [List.getElem?_range hj]
    simp only [Option.map_some, List.length_replicate, List.getElem?_replicate]
    match j, hj with
    | 0, _ => simp [h0, fx_leaf, num]
    | 1, _ => simp [h1, fx_leaf, num]
    | j + 2, hj => rw [if_neg (by omega), if_pos hj, if_neg (by omega)]
  · have e2 : (List.range (T.length + 2))[j]? = none := by simp; omega
    rw [e2]
    simp only [List.getElem?_replicate, Option.map_none]
    rw [if_neg (by omega), if_neg (by omega)]
theorem fxA_step {w : Nat} {b : Bool} {T S S' : List Tr} {k : Nat} (hk : k < T.length) (hn : ∀ j, j < k + 2 → num S' (fx w b (tr T j)) = num S (fx w b (tr T j))) :
    (fxA w b T S k).set (k + 2) (vi (num S' (fx w b (tr T (k + 2))))) = fxA w b T S' (k + 1) := by
  apply List.ext_getElem?
  intro j
  unfold fxA
  rw [List.getElem?_set, List.getElem?_map, List.getElem?_map]
  by_cases hj : j < T.length + 2
  · rw [List.getElem?_range hj]
    simp only [Option.map_some, List.length_map, List.length_range]
    by_cases h1 : k + 2 = j
    · subst h1
      simp
      omega
    · rw [if_neg h1]
      by_cases h2 : j < k + 2
      · rw [if_pos h2, if_pos (by omega), hn j h2]
      · rw [if_neg h2, if_neg (by omega)]
  · have e2 : (List.range (T.length + 2))[j]? = none := by simp; omega
    rw [e2]
    simp only [Option.map_none]
    rw [if_neg (by omega)]

section
variable {F : PH} {v : Array Value} {t : Tr}
theorem fixed_spec (hd : DV F v (dia t)) (ht : t.ok) (hl : (subs t).length ≤ 4096) (w : Nat) (x : Bool) : Spec prog 72 #[.agg v, vi w, .bool x] F fun r F' => ∃ u, r = .agg u ∧ DV F' u (dia (fx w x t)) ∧ F.le F' := by
  have hT := subs_cl ht
  obtain ⟨s, rfl, hr⟩ := hd
  have hr' : RdS F s 3 (bflat (brs (subs t))) := hr
  have hlen := hr'.blen
  rw [brs_length] at hlen
  refine c72 ?_
  unfold b72
  intro b3 hb3
  refine atI ?_
  have l3 := le_set_fresh (.cells #[s.v, vi (dia t).2] 28) hb3
  have q3 := set_eq F b3 (.cells #[s.v, vi (dia t).2] 28)
  generalize F.set b3 (.cells #[s.v, vi (dia t).2] 28) = F3 at *
  intro b6 hb6
  refine atI ?_
  have f6 : F b6 = none := le_none l3 hb6
  have lx := le_set_fresh (.cells #[Value.slice none 0 0, Value.int .i64 0] 28) hb6
  have q6 := set_eq F3 b6 (.cells #[Value.slice none 0 0, Value.int .i64 0] 28)
  replace q3 := lx _ _ q3
  have l6 := l3.trans lx
  clear lx
  generalize F3.set b6 (.cells #[Value.slice none 0 0, Value.int .i64 0] 28) = E at *
  refine (newBuilder_spec E).mono ?_
  rintro _ G ⟨bb, mm, rfl, hne, bd⟩
  have hw2 : IntKind.i64.wrap ((s.len : Int) + 2) = (((subs t).length + 2 : Nat) : Int) := by rw [hlen, w64_eq (by omega) (by omega)]; omega
  refine ⟨_, rfl, s, by rw [cell_eq (bd.le _ _ q3)]; rfl, ?_⟩
  rw [hw2]
  refine runs_makeSlice underlying68 sz3 zr3 rfl (by omega) (Int.le_refl _) (by omega) (by omega) ?_
  intro g hg
  rw [zc1 _ rfl, Int.toNat_natCast]
  have Eg : E g = none := le_none bd.le hg
  refine ⟨_, rfl, _, rfl, by omega, by simp only; omega, ?_⟩
  refine st1' (b := g) (o := 1) (by simp) (set_eq _ _ _) (by simp) ?_
  rw [set_twice, List.setIfInBounds_toArray]
  rw [fxA_zero w x (subs t)]
  have bd1 := (bd.upto (le_set_fresh (.cells (fxA w x (subs t) [] 0).toArray 3) hg))
  have qg := set_eq G g (.cells (fxA w x (subs t) [] 0).toArray 3)
  generalize G.set g (.cells (fxA w x (subs t) [] 0).toArray 3) = G1 at *
  refine ⟨s, by rw [cell_eq (bd1.le _ _ q3)]; rfl, ?_⟩
  refine ⟨fun m i F' => ∃ (k : Nat) (S : List Tr), i = k ∧ k ≤ (subs t).length ∧ m = (subs t).length - k ∧ BD E F' bb mm S ∧ S.length ≤ k ∧ (∀ j, j < k + 2 → inn S (fx w x (tr (subs t) j))) ∧ F' g = some (.cells (fxA w x (subs t) S k).toArray 3), (subs t).length,
    ⟨0, [], rfl, by omega, rfl, bd1, by simp, fun j hj => ?_, qg⟩, ?_⟩
  · match j, hj with
    | 0, _ => show inn [] (fx w x (leaf false)); rw [fx_leaf]; exact inn_leaf _ _
    | 1, _ => show inn [] (fx w x (leaf true)); rw [fx_leaf]; exact inn_leaf _ _
  rintro m i F1 ⟨k, S, rfl, hk, rfl, hbd, hSk, hin, hg1⟩
  unfold b72L1
  refine ⟨fun hlt => ?_, fun hge => ?_⟩
  · have hkT : k < (subs t).length := by omega
    obtain ⟨hck, vv, lo', hi', hget, hlo, hhi, hok, _⟩ := cl_get hT k hkT
    have hlo2 := num_le hlo
    have hhi2 := num_le hhi
    rw [← num_take hlo, List.length_take] at hlo2
    rw [← num_take hhi, List.length_take] at hhi2
    have inl : inn (subs t) lo' := by rw [← List.take_append_drop k (subs t)]; exact inn_append hlo
    have inh : inn (subs t) hi' := by rw [← List.take_append_drop k (subs t)]; exact inn_append hhi
    obtain ⟨a, ha, hrow, _⟩ := rdb (hr'.le (l6.trans hbd.le)) (brs_get hget)
    refine ⟨a, ha, by omega, hlt, barr (br (subs t) (node vv lo' hi')), rfl, by simpa using hrow, ?_⟩
    intro b10 hb10
    refine atI ?_
    refine stW (set_eq _ _ _) rfl rfl (st_barr _) ?_
    rw [set_twice]
    have hE10 : E b10 = none := le_none hbd.le hb10
    have bd2 := (hbd.grow (F := F1.set b10 (.cells (barr (br (subs t) (node vv lo' hi'))) 72)) (le_set_fresh _ hb10) hb10 (set_eq _ _ _))
    have n10 : g ≠ b10 := ne_of_fresh hb10 hg1
    have qg2 : (F1.set b10 (.cells (barr (br (subs t) (node vv lo' hi'))) 72)) g = some (.cells (fxA w x (subs t) S k).toArray 3) := by rw [set_ne _ _ n10]; exact hg1
    have c10 : ∀ G : PH, (F1.set b10 (.cells (barr (br (subs t) (node vv lo' hi'))) 72)).le G → G b10 = some (.cells (barr (br (subs t) (node vv lo' hi'))) 72) := fun G hG => hG _ _ (set_eq _ _ _)
    have e10 := set_eq E b10 (.cells (barr (br (subs t) (node vv lo' hi'))) 72)
    have lE : E.le (E.set b10 (.cells (barr (br (subs t) (node vv lo' hi'))) 72)) := le_set_fresh _ hE10
    have Eg2 : (E.set b10 (.cells (barr (br (subs t) (node vv lo' hi'))) 72)) g = none := by rw [set_ne _ _ n10]; exact Eg
    generalize F1.set b10 (.cells (barr (br (subs t) (node vv lo' hi'))) 72) = F2 at *
    generalize E.set b10 (.cells (barr (br (subs t) (node vv lo' hi'))) 72) = E2 at *
    have h10 := bd2.le _ _ e10
    have trl := tr_num hT inl
    have trh := tr_num hT inh
    have hnl : (fxA w x (subs t) S k)[num (subs t) lo']? = some (vi (num S (fx w x lo'))) := by rw [fxA_get (by omega) (by omega), trl]
    have hnh : (fxA w x (subs t) S k)[num (subs t) hi']? = some (vi (num S (fx w x hi'))) := by rw [fxA_get (by omega) (by omega), trh]
    have il : inn S (fx w x lo') := by have := hin (num (subs t) lo') (by omega); rwa [trl] at this
    have ih : inn S (fx w x hi') := by have := hin (num (subs t) hi') (by omega); rwa [trh] at this
    have hk2 : tr (subs t) (k + 2) = node vv lo' hi' := by
      unfold tr
      rw [if_neg (by omega), if_neg (by omega), Nat.add_sub_cancel, List.getD_eq_getElem?_getD, hget]
      rfl
    obtain ⟨o1, o2, o3, o4, o5, o6⟩ := hok
    obtain ⟨p1, p2, _⟩ := fx_facts w x o5
    obtain ⟨r1, r2, _⟩ := fx_facts w x o6
    have hfx := fx_node (w := w) (b := x) (v := vv) (l := lo') (h := hi') ⟨o1, o2, o3, o4, o5, o6⟩
    -- the rest, for any two sides
    have rest : ∀ A B : Tr, inn S A → inn S B → vv < A.top → vv < B.top → fx w x (node vv lo' hi') = mk vv A B → ∀ {R : Value → PH → Prop} {N : Int → PH → Prop},
        (∀ F', (∃ S', BD E F' bb mm S' ∧ S'.length ≤ k + 1 ∧ (∀ j, j < k + 1 + 2 → inn S' (fx w x (tr (subs t) j))) ∧ F' g = some (.cells (fxA w x (subs t) S' (k + 1)).toArray 3)) → N ((k + 1 : Nat) : Int) F') →
        b72j2 N w x b3 b6 (some ⟨bb, 0, none⟩) ⟨some ⟨g, 0, none⟩, (subs t).length + 2, (subs t).length + 2⟩ k b10 s (num S A) (num S B) R F2 := by
      intro A B hA hB tA tB hAB R N hN
      unfold b72j2
      refine ⟨_, by rw [cell_eq h10]; rfl, ?_⟩
      have bd3 := bd2.pin qg2 (by decide) (by decide)
      refine (branch_spec bd3 hA hB ⟨o1, tA, tB⟩ (by omega)).mono ?_
      rintro _ F3 ⟨rfl, bd4⟩
      have qg4 := bd4.le _ _ (set_eq E2 g (.cells (fxA w x (subs t) S k).toArray 3))
      have bd5 : BD E2 F3 bb mm (addT S (mk vv A B)) := bd4.weaken (le_set_new PH.le_rfl Eg2)
      have hw3 : IntKind.i64.wrap ((k : Int) + 2) = ((k + 2 : Nat) : Int) := by rw [w64_eq (by omega) (by omega)]; omega
      have hw4 : IntKind.i64.wrap ((k : Int) + 1) = ((k + 1 : Nat) : Int) := w64s (by omega)
      rw [hw3, hw4]
      refine ⟨_, rfl, _, rfl, by omega, by simp only; omega, ?_⟩
      refine st1' (b := g) (o := k + 2) (by simp; omega) qg4 (by simp [fxA]; omega) ?_
      rw [List.setIfInBounds_toArray]
      have hnum : ∀ {u : Tr}, inn S u → inn (addT S (mk vv A B)) u ∧ num (addT S (mk vv A B)) u = num S u := fun {u} hu => by
        unfold addT
        split
        · exact ⟨hu, rfl⟩
        · exact ⟨inn_append hu, num_append hu⟩
      have hinT : inn (addT S (mk vv A B)) (mk vv A B) := by
        unfold addT
        split
        · assumption
        · exact .inr (by simp)
      have hst := fxA_step (w := w) (b := x) (T := subs t) (S := S) (S' := addT S (mk vv A B)) hkT (fun j hj => (hnum (hin j hj)).2)
      rw [hk2, hfx, ← hfx, hAB] at hst
      rw [hst]
      refine hN _ ⟨_, ((bd5.weaken lE).setCells Eg qg4 (by decide) (by decide)), ?_, fun j hj => ?_, set_eq _ _ _⟩
      · unfold addT
        split
        · omega
        · simp only [List.length_append, List.length_singleton]; omega
      · by_cases hj2 : j < k + 2
        · exact (hnum (hin j hj2)).1
        · obtain rfl : j = k + 2 := by omega
          rw [hk2, hAB]
          exact hinT
    have done : ∀ F' : PH, (∃ S', BD E F' bb mm S' ∧ S'.length ≤ k + 1 ∧ (∀ j, j < k + 1 + 2 → inn S' (fx w x (tr (subs t) j))) ∧ F' g = some (.cells (fxA w x (subs t) S' (k + 1)).toArray 3)) →
        ∃ m', m' < (subs t).length - k ∧ ∃ (k' : Nat) (S : List Tr), ((k + 1 : Nat) : Int) = k' ∧ k' ≤ (subs t).length ∧ m' = (subs t).length - k' ∧ BD E F' bb mm S ∧ S.length ≤ k' ∧ (∀ j, j < k' + 2 → inn S (fx w x (tr (subs t) j))) ∧ F' g = some (.cells (fxA w x (subs t) S k').toArray 3) := fun F' ⟨S', h1, h2, h3, h4⟩ =>
      ⟨(subs t).length - (k + 1), by omega, k + 1, S', rfl, by omega, rfl, h1, h2, h3, h4⟩
    refine ⟨_, by rw [cell_eq h10]; rfl, _, rfl, by simp only [br]; omega, by simp only [br]; omega, vi (num S (fx w x lo')) |> fun _ => (num S (fx w x lo') : Int), by simp only [add_mk]; rw [cell_eq qg2]; simpa [br] using hnl,
      _, by rw [cell_eq h10]; rfl, _, rfl, by simp only [br]; omega, by simp only [br]; omega, (num S (fx w x hi') : Int), by simp only [add_mk]; rw [cell_eq qg2]; simpa [br] using hnh, _, by rw [cell_eq h10]; rfl, fun hv => ?_, fun hv => ?_⟩
    · have hvw : vv = w := by simp only [br] at hv; omega
      rw [if_pos hvw] at hfx
      refine ⟨fun hx => ?_, fun hx => ?_⟩
      · rw [if_pos hx] at hfx
        exact rest (fx w x hi') (fx w x hi') ih ih (by omega) (by omega) (by rw [hfx]; simp [mk]) done
      · rw [if_neg (by simp [hx])] at hfx
        exact rest (fx w x lo') (fx w x lo') il il (by omega) (by omega) (by rw [hfx]; simp [mk]) done
    · have hvw : ¬ vv = w := by simp only [br] at hv; omega
      rw [if_neg hvw] at hfx
      exact rest (fx w x lo') (fx w x hi') il ih (by omega) (by omega) hfx done
  · obtain rfl : k = (subs t).length := by omega
    unfold b72j1
    have hni := subs_inn ht
    have hnl := num_le hni
    have hct : (fxA w x (subs t) S (subs t).length)[num (subs t) t]? = some (vi (num S (fx w x t))) := by rw [fxA_get (by omega) (by omega), tr_num hT hni]
    refine ⟨(num (subs t) t : Int), by rw [cell_eq (hbd.le _ _ q3)]; rfl, _, rfl, by omega, by simp only; omega, (num S (fx w x t) : Int), by simp only [add_mk]; rw [cell_eq hg1]; simpa using hct, ?_⟩
    have hinf := hin (num (subs t) t) (by omega)
    rw [tr_num hT hni] at hinf
    obtain ⟨_, hcl, _, _, ⟨sb, hbb, hob, _⟩, _⟩ := id hbd
    have h16 := hbd.le _ _ q6
    have nbb : bb ≠ b6 := fun e => by rw [e, h16] at hbb; simp at hbb
    have hob' : OwnS (del1 F1 b6) 72 3 sb (bflat (brs S)) := hob.keep fun a ha => by
      obtain ⟨cur, hcur⟩ := hob.elem ha
      refine del1_of (fun e => ?_)
      rw [e, h16] at hcur
      simp at hcur
    refine (callD (diagram_spec (b := bb) (F := del1 F1 b6) (ns := sb) (by rw [cell_eq ((del1_of nbb).trans hbb)]; rfl) hob'.rd hcl hinf (by omega)) h16).mono ?_
    rintro _ F2 ⟨u, rfl, ⟨G', hu, lG, gG⟩, l2, q2⟩
    refine ⟨_, rfl, ?_⟩
    exact ret2 (K := fun vres F' => ∃ w', Value.agg vres = .agg w' ∧ DV F' w' (dia (fx w x t)) ∧ F.le F') hu q2 rfl ⟨_, rfl, hu.le (le_set_new lG gG), le_set_new (l6.trans (hbd.le.trans l2)) f6⟩
end
end Go.Proofs.Ytafojmoeaneedaa
