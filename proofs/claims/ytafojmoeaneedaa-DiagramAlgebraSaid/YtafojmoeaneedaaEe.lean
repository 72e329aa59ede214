/-
  The diagrams: the canonical diagram of a number of a builder.
-/
import Derived.Test.YtafojmoeaneedaaEd
namespace Go.Proofs.Ytafojmoeaneedaa
open Go Go.Proofs.Try Tr
set_option maxRecDepth 10000

/-- F without two blocks. -/
def del2 (F : PH) (a b : Nat) : PH := fun x => if x = a ∨ x = b then none else F x
theorem del2_le (F : PH) (a b : Nat) : (del2 F a b).le F := fun x o h => by
  unfold del2 at h
  split at h
  · cases h
  · exact h
theorem del2_of {F : PH} {a b x : Nat} (h1 : x ≠ a) (h2 : x ≠ b) : del2 F a b x = F x := by simp [del2, h1, h2]
theorem del2_1 (F : PH) (a b : Nat) : del2 F a b a = none := by simp [del2]
theorem del2_2 (F : PH) (a b : Nat) : del2 F a b b = none := by simp [del2]
theorem le_del2 {F G : PH} {a b : Nat} (h : F.le G) (ha : F a = none) (hb : F b = none) : F.le (del2 G a b) := fun x o hx => by
  have h1 : x ≠ a := fun e => by rw [e, ha] at hx; cases hx
  have h2 : x ≠ b := fun e => by rw [e, hb] at hx; cases hx
  rw [del2_of h1 h2]
  exact h _ _ hx
theorem PH.le.trans {F G H : PH} (h : F.le G) (k : G.le H) : F.le H := fun b o hx => k _ _ (h _ _ hx)

section
variable {F : PH} {b : Nat} {ns : Sl} {S0 : List Tr} {t : Tr}
theorem diagram_spec (hb : F.cell ⟨b, 0, none⟩ = some ns.v) (hr : RdS F ns 3 (bflat (brs S0))) (h0 : Cl S0) (ht : inn S0 t) (hf : Fit (S0.length + 4)) :
    Spec prog 64 #[.pointer (some ⟨b, 0, none⟩), vi (num S0 t)] F fun r F' => ∃ v, r = .agg v ∧ DV F' v (dia t) ∧ F.le F' := by
  have hok := h0.inn_ok ht
  refine c64 ?_
  unfold b64
  intro b2 hb2
  refine atI ?_
  have l2 := le_set_fresh (.cells #[Value.pointer (some ⟨b, 0, none⟩)] 81) hb2
  have h2 := set_eq F b2 (.cells #[Value.pointer (some ⟨b, 0, none⟩)] 81)
  generalize F.set b2 (.cells #[Value.pointer (some ⟨b, 0, none⟩)] 81) = F2 at *
  intro b4 hb4
  refine atI ?_
  have l4 := le_set_fresh (.cells #[Value.slice none 0 0, Value.int .i64 0] 28) hb4
  have h4 := set_eq F2 b4 (.cells #[Value.slice none 0 0, Value.int .i64 0] 28)
  replace h2 := l4 _ _ h2
  have f4 : F b4 = none := le_none l2 hb4
  replace l4 := l2.trans l4
  generalize F2.set b4 (.cells #[Value.slice none 0 0, Value.int .i64 0] 28) = F4 at *
  intro b5 hb5
  refine atI ?_
  have n25 : b2 ≠ b5 := ne_of_fresh hb5 h2
  have n45 : b4 ≠ b5 := ne_of_fresh hb5 h4
  refine stW (set_eq _ _ _) rfl rfl (fun x hx => ?_) ?_
  · simp only [List.mem_cons, List.not_mem_nil, or_false] at hx
    rcases hx with rfl | rfl
    · exact st_sl (x := Sl.nil)
    · exact st_int
  rw [set_twice]
  have l5 := le_set_fresh (.cells #[Value.slice none 0 0, Value.int .i64 0] 28) hb5
  have h5 := set_eq F4 b5 (.cells #[Value.slice none 0 0, Value.int .i64 0] 28)
  replace h2 := l5 _ _ h2
  replace h4 := l5 _ _ h4
  have f5 : F b5 = none := le_none l4 hb5
  replace l5 := l4.trans l5
  generalize F4.set b5 (.cells #[Value.slice none 0 0, Value.int .i64 0] 28) = F5 at *
  intro b9 hb9
  refine atI ?_
  have f9 : F b9 = none := le_none l5 hb9
  have n92 : b2 ≠ b9 := ne_of_fresh hb9 h2
  have n94 : b4 ≠ b9 := ne_of_fresh hb9 h4
  have n95 : b5 ≠ b9 := ne_of_fresh hb9 h5
  refine runs_mapUpdate mtN (set_eq _ _ _) (MapO.empty encI) 0 (vi 0) fun o1 ho1 => ?_
  rw [set_twice]
  refine runs_mapUpdate mtN (set_eq _ _ _) ho1 1 (vi 1) fun o2 ho2 => ?_
  rw [set_twice]
  have hn : nmS S0 [] = (fun k' => if k' = 1 then some (vi 1) else if k' = 0 then some (vi 0) else none) := nmS_nil h0
  rw [← hn] at ho2
  have l9 : F.le (F5.set b9 o2) := l5.trans (le_set_fresh o2 hb9)
  have h9 := set_eq F5 b9 o2
  replace h2 := le_set_fresh o2 hb9 _ _ h2
  replace h4 := le_set_fresh o2 hb9 _ _ h4
  replace h5 := le_set_fresh o2 hb9 _ _ h5
  generalize F5.set b9 o2 = F9 at *
  intro b6 hb6
  refine atI ?_
  refine st1 (set_eq _ _ _) (by simp) ?_
  rw [set_twice, show (#[Value.map none].setIfInBounds 0 (Value.map (some b9)) : Array Value) = #[Value.map (some b9)] from rfl]
  have n65 : b6 ≠ b5 := (ne_of_fresh hb6 h5).symm
  have n69 : b6 ≠ b9 := (ne_of_fresh hb6 h9).symm
  have hx := le_set_fresh (.cells #[Value.map (some b9)] 109) hb6
  have h6 := set_eq F9 b6 (.cells #[Value.map (some b9)] 109)
  have l6 : F.le (F9.set b6 (.cells #[Value.map (some b9)] 109)) := l9.trans hx
  replace h2 := hx _ _ h2
  replace h4 := hx _ _ h4
  replace h5 := hx _ _ h5
  replace h9 := hx _ _ h9
  clear hx
  generalize F9.set b6 (.cells #[Value.map (some b9)] 109) = F6 at *
  intro b7 hb7
  refine atI ?_
  refine st1 (set_eq _ _ _) (by simp) ?_
  rw [set_twice]
  generalize hfv : (Value.func (.func 95) #[] #[(Value.pointer (some (Addr.mk b6 0 none))), (Value.pointer (some (Addr.mk b2 0 none))), (Value.pointer (some (Addr.mk b7 0 none))), (Value.pointer (some (Addr.mk b5 0 none)))]) = fv
  rw [show (#[Value.nilFunc].setIfInBounds (Addr.mk b7 0 none).off fv : Array Value) = #[fv] from rfl]
  have n75 : b7 ≠ b5 := (ne_of_fresh hb7 h5).symm
  have n79 : b7 ≠ b9 := (ne_of_fresh hb7 h9).symm
  have hx := le_set_fresh (.cells #[fv] 94) hb7
  have h7 := set_eq F6 b7 (.cells #[fv] 94)
  have l7 : F.le (F6.set b7 (.cells #[fv] 94)) := l6.trans hx
  replace h2 := hx _ _ h2
  replace h4 := hx _ _ h4
  replace h5 := hx _ _ h5
  replace h9 := hx _ _ h9
  replace h6 := hx _ _ h6
  clear hx
  generalize F6.set b7 (.cells #[fv] 94) = F7 at *
  have lF : F.le (del2 F7 b5 b9) := le_del2 l7 f5 f9
  have g4 : (del2 F7 b5 b9) b4 = _ := (del2_of n45 n94).trans h4
  have he : VE (del2 F7 b5 b9) b6 b2 b7 b5 b9 b ns S0 := by
    refine ⟨?_, ?_, ?_, le_cell lF hb, hr.le lF⟩
    · rw [cell_eq ((del2_of n65 n69).trans h6)]; rfl
    · rw [cell_eq ((del2_of n25 n92).trans h2)]; rfl
    · rw [cell_eq ((del2_of n75 n79).trans h7), ← hfv]; rfl
  have hs : VS (del2 F7 b5 b9) F7 b5 b9 S0 [] := by
    refine ⟨del2_le _ _ _, .nil, fun x hx => (by cases hx), del2_1 _ _ _, del2_2 _ _ _, ⟨Sl.nil, h5, .inl ⟨rfl, rfl⟩, fun a ha => by cases ha⟩, o2, h9, ho2⟩
  refine ⟨_, by rw [cell_eq h7]; rfl, _, _, _, hfv.symm, cb95, ?_⟩
  refine (visit_spec h0 hf t ht _ _ _ he hs).mono ?_
  rintro _ G ⟨rfl, hs'⟩
  refine ⟨_, rfl, ?_⟩
  obtain ⟨gle, gcl, _, _, _, ⟨s, g5, go, gs⟩, _⟩ := hs'
  have ev : vis t [] = subs t := rfl
  rw [ev] at *
  refine st1 g5 (by simp) ?_
  rw [show (#[s.v, vi 0].setIfInBounds 1 (vi (num (subs t) t)) : Array Value) = #[s.v, vi (num (subs t) t)] from rfl]
  refine ⟨#[s.v, vi (num (subs t) t)], rfl, row_whole (set_eq _ _ _), ?_⟩
  have k4 : (G.set b5 (.cells #[s.v, vi (num (subs t) t)] 28)) b4 = some (.cells #[Value.slice none 0 0, Value.int .i64 0] 28) := by
    rw [set_ne _ _ n45]
    exact gle _ _ g4
  refine stW k4 rfl rfl (fun x hx => ?_) ?_
  · simp only [List.mem_cons, List.not_mem_nil, or_false] at hx
    rcases hx with rfl | rfl
    · exact st_sl
    · exact st_int
  refine ⟨#[s.v, vi (num (subs t) t)], rfl, row_whole (set_eq _ _ _), _, rfl, ⟨s, rfl, ?_⟩, ?_⟩
  · have hsb : ∀ a, s.base = some a → a.block ≠ b5 ∧ a.block ≠ b4 := fun a ha => by
      obtain ⟨cur, hcur⟩ := go.elem ha
      refine ⟨fun e => ?_, fun e => ?_⟩
      · rw [e, g5] at hcur; cases hcur
      · rw [e, gle _ _ g4] at hcur; cases hcur
    exact (go.keep fun a ha => by rw [set_ne _ _ (hsb a ha).2, set_ne _ _ (hsb a ha).1]).rd
  · exact le_set_new (le_set_new (lF.trans gle) f5) f4
end
end Go.Proofs.Ytafojmoeaneedaa
