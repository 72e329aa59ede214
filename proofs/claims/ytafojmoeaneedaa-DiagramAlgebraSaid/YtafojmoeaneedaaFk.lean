/-
  Three sets in an array; three sets made in any order.
-/
import Derived.Test.YtafojmoeaneedaaFf
namespace Go.Proofs.Ytafojmoeaneedaa
open Go Go.Proofs.Try Tr
set_option maxRecDepth 10000

/-- An array of three sets. -/
structure SetsV (F : PH) (l s0 s1 s2 : Array Value) (n0 n1 n2 : Int) : Prop where
  eq : l = #[s0[0]!, s0[1]!, s1[0]!, s1[1]!, s2[0]!, s2[1]!]
  s0 : SetV F s0 n0
  s1 : SetV F s1 n1
  s2 : SetV F s2 n2
theorem SetsV.row {F G : PH} {l s0 s1 s2 : Array Value} {n0 n1 n2 : Int} (h : SetsV F l s0 s1 s2 n0 n1 n2) {b : Nat} (q : G b = some (.cells l 43)) (i : Nat) {s : Array Value} (hs : s = match i with | 0 => s0 | 1 => s1 | _ => s2) :
    i < 3 → G.row (Addr.add (Addr.mk b 0 none) (i * 2)) s := by
  intro hi
  obtain ⟨he, h0, h1, h2⟩ := h
  obtain ⟨⟨sl0, z0, rfl, _⟩, _⟩ := h0
  obtain ⟨⟨sl1, z1, rfl, _⟩, _⟩ := h1
  obtain ⟨⟨sl2, z2, rfl, _⟩, _⟩ := h2
  have he' : l = #[sl0.v, .int .u8 n0, sl1.v, .int .u8 n1, sl2.v, .int .u8 n2] := he
  subst he'
  intro j hj
  match i, hi with
  | 0, _ =>
    subst hs
    match j, hj with
    | 0, _ => simp only [add_mk]; rw [cell_eq q]; rfl
    | 1, _ => simp only [add_mk]; rw [cell_eq q]; rfl
  | 1, _ =>
    subst hs
    match j, hj with
    | 0, _ => simp only [add_mk]; rw [cell_eq q]; rfl
    | 1, _ => simp only [add_mk]; rw [cell_eq q]; rfl
  | 2, _ =>
    subst hs
    match j, hj with
    | 0, _ => simp only [add_mk]; rw [cell_eq q]; rfl
    | 1, _ => simp only [add_mk]; rw [cell_eq q]; rfl
/-- Three values are stored. -/
theorem R_fin3 {F0 F : PH} {zs : List Nat} {b c d : Nat} {w u v : Array Value} {t s r : Tr} (h : RSt F0 F zs [(v, r), (u, s), (w, t)]) (hz : zs = [b, c, d] ∨ zs = [b, d, c] ∨ zs = [c, b, d] ∨ zs = [c, d, b] ∨ zs = [d, b, c] ∨ zs = [d, c, b]) {K : PH → Prop}
    (k : ∀ F', F0.le F' → Sx 6 t → Sx 6 s → Sx 6 r → Los F' [(d, dia r), (c, dia s), (b, dia t)] → K F') :
    w.size = 2 ∧ (∀ x ∈ w.toList, storable x) ∧ ∃ c1 e, F (Addr.mk b 0 none).block = some (.cells c1 e (0, 0)) ∧ (Addr.mk b 0 none).spot = none ∧ (Addr.mk b 0 none).off + 2 ≤ c1.size ∧
      atF (F.set (Addr.mk b 0 none).block (.cells (wr c1 (Addr.mk b 0 none).off w.toList) e)) fun F =>
    u.size = 2 ∧ (∀ x ∈ u.toList, storable x) ∧ ∃ c1 e, F (Addr.mk c 0 none).block = some (.cells c1 e (0, 0)) ∧ (Addr.mk c 0 none).spot = none ∧ (Addr.mk c 0 none).off + 2 ≤ c1.size ∧
      atF (F.set (Addr.mk c 0 none).block (.cells (wr c1 (Addr.mk c 0 none).off u.toList) e)) fun F =>
    v.size = 2 ∧ (∀ x ∈ v.toList, storable x) ∧ ∃ c1 e, F (Addr.mk d 0 none).block = some (.cells c1 e (0, 0)) ∧ (Addr.mk d 0 none).spot = none ∧ (Addr.mk d 0 none).off + 2 ≤ c1.size ∧
      atF (F.set (Addr.mk d 0 none).block (.cells (wr c1 (Addr.mk d 0 none).off v.toList) e)) K := by
  have hne : b ≠ c ∧ b ≠ d ∧ c ≠ d := by
    have := h.nd
    rcases hz with rfl | rfl | rfl | rfl | rfl | rfl <;> simp at this <;> omega
  have hm : b ∈ zs ∧ c ∈ zs ∧ d ∈ zs := by rcases hz with rfl | rfl | rfl | rfl | rfl | rfl <;> simp
  obtain ⟨⟨G, h1, h2, h3, h4⟩, h5⟩ := h
  obtain ⟨b1, b2⟩ := h3 b hm.1
  obtain ⟨c1, c2⟩ := h3 c hm.2.1
  obtain ⟨d1, d2⟩ := h3 d hm.2.2
  obtain ⟨dw, kw⟩ := h4 (w, t) (by simp)
  obtain ⟨du, ku⟩ := h4 (u, s) (by simp)
  obtain ⟨dv, kv⟩ := h4 (v, r) (by simp)
  refine stW b1 dw.size rfl dw.st ?_
  refine stW ((set_ne _ _ hne.1.symm).trans c1) du.size rfl du.st ?_
  refine stW ((set_ne _ _ hne.2.2.symm).trans ((set_ne _ _ hne.2.1.symm).trans d1)) dv.size rfl dv.st ?_
  have lG : G.le (((F.set b (.cells w 28)).set c (.cells u 28)).set d (.cells v 28)) := le_set_new (le_set_new (le_set_new h2 b2) c2) d2
  refine k _ (h1.trans lG) kw ku kv fun p hp => ?_
  simp only [List.mem_cons, List.not_mem_nil, or_false] at hp
  rcases hp with rfl | rfl | rfl
  · exact ⟨v, set_eq _ _ _, dv.le lG⟩
  · exact ⟨u, (set_ne _ _ hne.2.2).trans (set_eq _ _ _), du.le lG⟩
  · exact ⟨w, (set_ne _ _ hne.2.1).trans ((set_ne _ _ hne.1).trans (set_eq _ _ _)), dw.le lG⟩
end Go.Proofs.Ytafojmoeaneedaa
