/-
  Variables that hold diagrams, some of them assigned more than once; few.
-/
import Derived.Test.YtafojmoeaneedaaEs
import Derived.Test.YtafojmoeaneedaaGh
namespace Go.Proofs.Ytafojmoeaneedaa
open Go Go.Proofs.Try Tr
set_option maxRecDepth 10000

/-- G lies within F, beside the variables xs, which hold values that lie in G. -/
structure VX (F0 F G : PH) (xs : List (Nat × Array Value × Dia)) : Prop where
  l0 : F0.le G
  lG : G.le F
  z : ∀ p ∈ xs, F p.1 = some (.cells p.2.1 28) ∧ G p.1 = none ∧ DV G p.2.1 p.2.2
  nd : (xs.map (·.1)).Nodup
theorem VX.start (F : PH) : VX F F F [] := ⟨PH.le_rfl, PH.le_rfl, fun p hp => (by cases hp), List.nodup_nil⟩
section
variable {F0 F G : PH} {xs ys : List (Nat × Array Value × Dia)}
theorem VX.le (h : VX F0 F G xs) : F0.le F := h.l0.trans h.lG
theorem VX.row (h : VX F0 F G xs) {b : Nat} {w : Array Value} {e : TypeId} (q : F0 b = some (.cells w e)) : F.row (Addr.mk b 0 none) w := row_whole (h.le _ _ q)
theorem VX.get (h : VX F0 F G xs) {b : Nat} {w : Array Value} {d : Dia} (hm : (b, w, d) ∈ xs) : F.row (Addr.mk b 0 none) w := row_whole (h.z _ hm).1
theorem VX.dv (h : VX F0 F G xs) {b : Nat} {w : Array Value} {d : Dia} (hm : (b, w, d) ∈ xs) : DV G w d := (h.z _ hm).2.2
theorem VX.call {f : FuncId} {args : Array Value} {P : Value → PH → Prop} (h : VX F0 F G xs) (s : Spec prog f args G fun r G' => P r G' ∧ G.le G') :
    Spec prog f args F fun r F' => ∃ G', P r G' ∧ VX F0 F' G' xs :=
  (s.upon h.lG).mono fun r F' ⟨G', ⟨hp, hl⟩, hl', hk⟩ => ⟨G', hp, h.l0.trans hl, hl', fun p hp => by
    obtain ⟨a, b, c⟩ := h.z p hp
    obtain ⟨a', b'⟩ := hk _ _ b a
    exact ⟨a', b', c.le hl⟩, h.nd⟩
theorem VX.new (h : VX F0 F G xs) {w : Array Value} {d : Dia} (hw : DV G w d) {K : Nat → PH → Prop} (k : ∀ b F', VX F0 F' G ((b, w, d) :: xs) → K b F') :
    ∀ b, F b = none → atF (F.set b (.cells #[Value.slice none 0 0, Value.int .i64 0] 28)) fun F =>
      w.size = 2 ∧ (∀ v ∈ w.toList, storable v) ∧ ∃ c e, F (Addr.mk b 0 none).block = some (.cells c e (0, 0)) ∧ (Addr.mk b 0 none).spot = none ∧ (Addr.mk b 0 none).off + 2 ≤ c.size ∧
      atF (F.set (Addr.mk b 0 none).block (.cells (wr c (Addr.mk b 0 none).off w.toList) e)) (K b) := by
  intro b hb
  refine atI ?_
  refine stW (set_eq _ _ _) hw.size rfl hw.st ?_
  rw [set_twice]
  have hne : ∀ p ∈ xs, p.1 ≠ b := fun p hp => ne_of_fresh hb (h.z p hp).1
  refine k b _ ⟨h.l0, h.lG.trans (le_set_fresh _ hb), fun p hp => ?_, ?_⟩
  · rcases List.mem_cons.1 hp with rfl | hp
    · exact ⟨set_eq _ _ _, le_none h.lG hb, hw⟩
    · obtain ⟨a, c, e⟩ := h.z p hp
      exact ⟨(set_ne _ _ (hne p hp)).trans a, c, e⟩
  · rw [List.map_cons, List.nodup_cons]
    refine ⟨fun hm => ?_, h.nd⟩
    obtain ⟨p, hp, e⟩ := List.mem_map.1 hm
    exact hne p hp e
theorem VX.assign (l1 l2 : List (Nat × Array Value × Dia)) {b : Nat} {w0 w : Array Value} {d0 d : Dia} (h : VX F0 F G (l1 ++ (b, w0, d0) :: l2)) (hw : DV G w d) {K : PH → Prop} (k : ∀ F', VX F0 F' G (l1 ++ (b, w, d) :: l2) → K F') :
    w.size = 2 ∧ (∀ v ∈ w.toList, storable v) ∧ ∃ c e, F (Addr.mk b 0 none).block = some (.cells c e (0, 0)) ∧ (Addr.mk b 0 none).spot = none ∧ (Addr.mk b 0 none).off + 2 ≤ c.size ∧
      atF (F.set (Addr.mk b 0 none).block (.cells (wr c (Addr.mk b 0 none).off w.toList) e)) K := by
  obtain ⟨q, g, d1⟩ := h.z (b, w0, d0) (by simp)
  have nd := h.nd
  rw [List.map_append, List.map_cons] at nd
  have hne : ∀ p, p ∈ l1 ∨ p ∈ l2 → p.1 ≠ b := fun p hp e => by
    obtain ⟨_, n2, n3⟩ := List.nodup_append.1 nd
    rcases hp with hp | hp
    · exact n3 p.1 (List.mem_map.2 ⟨p, hp, rfl⟩) b (by simp) e
    · exact (List.nodup_cons.1 n2).1 (List.mem_map.2 ⟨p, hp, e⟩)
  refine stW q hw.size d1.size hw.st ?_
  refine k _ ⟨h.l0, le_set_new h.lG g, fun p hp => ?_, by rw [List.map_append, List.map_cons]; exact nd⟩
  have hk : ∀ p, p ∈ l1 ∨ p ∈ l2 → (F.set b (.cells w 28)) p.1 = some (.cells p.2.1 28) ∧ G p.1 = none ∧ DV G p.2.1 p.2.2 := fun p hp => by
    obtain ⟨a, c, e⟩ := h.z p (by simp only [List.mem_append, List.mem_cons]; rcases hp with hp | hp <;> simp [hp])
    exact ⟨(set_ne _ _ (hne p hp)).trans a, c, e⟩
  rcases List.mem_append.1 hp with hp | hp
  · exact hk p (.inl hp)
  · rcases List.mem_cons.1 hp with rfl | hp
    · exact ⟨set_eq _ _ _, g, hw⟩
    · exact hk p (.inr hp)
end
theorem few_spec {F : PH} {v : Array Value} {d : Dia} (hd : DV F v d) : Spec prog 36 #[.agg v] F fun r F' => r = .bool (decide (d.1.length ≤ 40)) ∧ F.le F' := by
  obtain ⟨s, rfl, hr⟩ := hd
  have hlen := hr.blen
  refine c36 ?_
  unfold b36
  intro b1 hb1
  refine atI ?_
  refine ⟨s, by rw [cell_eq (set_eq _ _ _)]; rfl, ?_, le_set_fresh _ hb1⟩
  congr 1
  rw [Bool.eq_iff_iff, decide_eq_true_iff, decide_eq_true_iff]
  omega
theorem bin_fit (o : Op2) (a b : Dia) : (bin o a b).1.1.length ≤ 4096 := by
  unfold bin lim none0
  repeat' split
  all_goals simp
  omega
theorem cho_fit (c a b : Dia) : (cho c a b).1.1.length ≤ 4096 := by
  unfold cho lim none0
  repeat' split
  all_goals simp
  omega
end Go.Proofs.Ytafojmoeaneedaa
