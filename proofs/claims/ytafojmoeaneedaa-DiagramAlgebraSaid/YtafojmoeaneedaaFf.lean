/-
  Sets made in any order, and stored into their variables.
-/
import Derived.Test.YtafojmoeaneedaaEt
import Derived.Test.YtafojmoeaneedaaFb
namespace Go.Proofs.Ytafojmoeaneedaa
open Go Go.Proofs.Try Tr
set_option maxRecDepth 10000

abbrev zero2 : Array Value := #[Value.slice none 0 0, Value.int .i64 0]
/-- F holds F0; the variables zs, still empty; the values vs, which do not lie in these. -/
structure RSt (F0 F : PH) (zs : List Nat) (vs : List (Array Value × Tr)) : Prop where
  ex : ∃ G : PH, F0.le G ∧ G.le F ∧ (∀ b ∈ zs, F b = some (.cells zero2 28) ∧ G b = none) ∧ ∀ p ∈ vs, DV G p.1 (dia p.2) ∧ Sx 6 p.2
  nd : zs.Nodup
theorem RSt.le {F0 F : PH} {zs : List Nat} {vs : List (Array Value × Tr)} (h : RSt F0 F zs vs) : F0.le F := by
  obtain ⟨⟨G, h1, h2, _⟩, _⟩ := h
  exact h1.trans h2
theorem RSt.start (F0 : PH) : RSt F0 F0 [] [] := ⟨⟨F0, PH.le_rfl, PH.le_rfl, fun b hb => (by cases hb), fun p hp => by cases hp⟩, List.nodup_nil⟩
theorem R_alloc {F0 F : PH} {zs : List Nat} {vs : List (Array Value × Tr)} (h : RSt F0 F zs vs) {K : Nat → PH → Prop} (k : ∀ b F', RSt F0 F' (b :: zs) vs → K b F') : ∀ b, F b = none → atF (F.set b (.cells #[Value.slice none 0 0, Value.int .i64 0] 28)) (K b) := by
  intro b hb
  refine atI (k b _ ?_)
  obtain ⟨⟨G, h1, h2, h3, h4⟩, h5⟩ := h
  refine ⟨⟨G, h1, h2.trans (le_set_fresh _ hb), fun x hx => ?_, h4⟩, List.nodup_cons.2 ⟨fun hm => ?_, h5⟩⟩
  · rcases List.mem_cons.1 hx with rfl | hx
    · exact ⟨set_eq _ _ _, le_none h2 hb⟩
    · obtain ⟨a, c⟩ := h3 x hx
      exact ⟨by rw [set_ne _ _ (ne_of_fresh hb a)]; exact a, c⟩
  · rw [(h3 b hm).1] at hb
    cases hb
theorem R_made {F0 F : PH} {zs : List Nat} {vs : List (Array Value × Tr)} (h : RSt F0 F zs vs) {s : Array Value} {n : Int} (hs : SetV F0 s n) {K : Array Value → PH → Prop} (k : ∀ w t F', RSt F0 F' zs ((w, t) :: vs) → K w F') :
    Spec prog 16 #[.agg s] F fun v F' => ∃ w, v = .agg w ∧ K w F' := by
  obtain ⟨⟨G, h1, h2, h3, h4⟩, h5⟩ := h
  refine ((made_spec (hs.le h1)).upon h2).mono ?_
  rintro _ F' ⟨G', ⟨w, t, rfl, kt, hw, l1⟩, l2, hk⟩
  refine ⟨w, rfl, k w t F' ⟨⟨G', h1.trans l1, l2, fun b hb => ?_, fun p hp => ?_⟩, h5⟩⟩
  · obtain ⟨a, c⟩ := h3 b hb
    exact hk b _ c a
  · rcases List.mem_cons.1 hp with rfl | hp
    · exact ⟨hw, kt.mono (nOf_le n)⟩
    · exact ⟨(h4 p hp).1.le l1, (h4 p hp).2⟩
theorem R_row {F0 F : PH} {zs : List Nat} {vs : List (Array Value × Tr)} (h : RSt F0 F zs vs) {b : Nat} {s : Array Value} {e : TypeId} (hb : F0 b = some (.cells s e)) : F.row (Addr.mk b 0 none) s := row_whole (h.le _ _ hb)
/-- Two values are stored. -/
theorem R_fin2 {F0 F : PH} {zs : List Nat} {vs : List (Array Value × Tr)} (h : RSt F0 F zs vs) {b c : Nat} {w u : Array Value} {t s : Tr} (hz : zs = [b, c] ∨ zs = [c, b]) (hv : vs = [(w, t), (u, s)] ∨ vs = [(u, s), (w, t)]) {K : PH → Prop}
    (k : ∀ F', F0.le F' → Sx 6 t → Sx 6 s → Los F' [(c, dia s), (b, dia t)] → K F') :
    w.size = 2 ∧ (∀ x ∈ w.toList, storable x) ∧ ∃ c1 e, F (Addr.mk b 0 none).block = some (.cells c1 e (0, 0)) ∧ (Addr.mk b 0 none).spot = none ∧ (Addr.mk b 0 none).off + 2 ≤ c1.size ∧
      atF (F.set (Addr.mk b 0 none).block (.cells (wr c1 (Addr.mk b 0 none).off w.toList) e)) fun F =>
    u.size = 2 ∧ (∀ x ∈ u.toList, storable x) ∧ ∃ c1 e, F (Addr.mk c 0 none).block = some (.cells c1 e (0, 0)) ∧ (Addr.mk c 0 none).spot = none ∧ (Addr.mk c 0 none).off + 2 ≤ c1.size ∧
      atF (F.set (Addr.mk c 0 none).block (.cells (wr c1 (Addr.mk c 0 none).off u.toList) e)) K := by
  have hbc : b ≠ c := by
    have := h.nd
    rcases hz with rfl | rfl
    · intro e; subst e; simp at this
    · intro e; subst e; simp at this
  have hb : b ∈ zs := by rcases hz with rfl | rfl <;> simp
  have hc : c ∈ zs := by rcases hz with rfl | rfl <;> simp
  have hw : (w, t) ∈ vs := by rcases hv with rfl | rfl <;> simp
  have hu : (u, s) ∈ vs := by rcases hv with rfl | rfl <;> simp
  obtain ⟨⟨G, h1, h2, h3, h4⟩, h5⟩ := h
  obtain ⟨b1, b2⟩ := h3 b hb
  obtain ⟨c1, c2⟩ := h3 c hc
  obtain ⟨dw, kw⟩ := h4 _ hw
  obtain ⟨du, ku⟩ := h4 _ hu
  refine stW b1 dw.size rfl dw.st ?_
  refine stW ((set_ne _ _ hbc.symm).trans c1) du.size rfl du.st ?_
  have lG : G.le ((F.set b (.cells w 28)).set c (.cells u 28)) := le_set_new (le_set_new h2 b2) c2
  refine k _ (h1.trans lG) kw ku fun p hp => ?_
  simp only [List.mem_cons, List.not_mem_nil, or_false] at hp
  rcases hp with rfl | rfl
  · exact ⟨u, set_eq _ _ _, du.le lG⟩
  · exact ⟨w, (set_ne _ _ hbc).trans (set_eq _ _ _), dw.le lG⟩
end Go.Proofs.Ytafojmoeaneedaa
