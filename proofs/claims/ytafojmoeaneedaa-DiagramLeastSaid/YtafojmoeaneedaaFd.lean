/-
  DiagramLeast: the least configuration; the walk.
-/
import Derived.Test.YtafojmoeaneedaaEt
import Derived.Test.YtafojmoeaneedaaFb
import Derived.Test.YtafojmoeaneedaaGL7
namespace Go.Proofs.Ytafojmoeaneedaa
open Go Go.Proofs.Try Tr
set_option maxRecDepth 10000

/-- The least number has no bits below the tree's first condition. -/
theorem least_low : ∀ (t : Tr), t.ok → ∀ i, i < t.top → (leastT t).testBit i = false
  | leaf _, _, i, _ => by simp [leastT]
  | node v l h, ⟨h0, h1, h2, h3, h4, h5⟩, i, hi => by
    simp only [top] at hi
    have il := least_low l h4 i (by omega)
    have ih := least_low h h5 i (by omega)
    have hp : (leastT h ||| 2 ^ v).testBit i = false := by
      rw [Nat.testBit_or, ih, Nat.testBit_two_pow]
      simp
      omega
    unfold leastT
    split
    · exact hp
    · split
      · exact il
      · rcases Nat.le_total (leastT l) (leastT h ||| 2 ^ v) with hm | hm
        · rw [Nat.min_eq_left hm]; exact il
        · rw [Nat.min_eq_right hm]; exact hp
theorem least_in : ∀ (t : Tr), t.ok → t ≠ leaf false → t.ev (fun i => (leastT t).testBit i) = true
  | leaf b, _, hn => by
    cases b with
    | false => exact absurd rfl hn
    | true => rfl
  | node v l h, ⟨h0, h1, h2, h3, h4, h5⟩, _ => by
    have lowl := least_low l h4
    have lowh := least_low h h5
    have hi : h ≠ leaf false → (node v l h).ev (fun i => (leastT h ||| 2 ^ v).testBit i) = true := fun hh => by
      have hb : (leastT h ||| 2 ^ v).testBit v = true := by rw [Nat.testBit_or, Nat.testBit_two_pow]; simp
      simp only [Tr.ev, hb, if_true]
      rw [← least_in h h5 hh]
      refine ev_congr h h5 _ _ fun i hi => ?_
      rw [Nat.testBit_or, Nat.testBit_two_pow]
      have : ¬ v = i := by omega
      simp [this]
    have lo : l ≠ leaf false → (node v l h).ev (fun i => (leastT l).testBit i) = true := fun hl => by
      have hb : (leastT l).testBit v = false := lowl v h1
      simp only [Tr.ev, hb, Bool.false_eq_true, if_false]
      exact least_in l h4 hl
    have e : leastT (node v l h) = if l = leaf false then leastT h ||| 2 ^ v else if h = leaf false then leastT l else min (leastT l) (leastT h ||| 2 ^ v) := by conv => lhs; unfold leastT
    rw [e]
    split
    · rename_i hl
      exact hi fun hh => h3 (by rw [hl, hh])
    · rename_i hl
      split
      · exact lo hl
      · rename_i hh
        rcases Nat.le_total (leastT l) (leastT h ||| 2 ^ v) with hm | hm
        · rw [Nat.min_eq_left hm]; exact lo hl
        · rw [Nat.min_eq_right hm]; exact hi hh
theorem least_min : ∀ (t : Tr), t.ok → ∀ m : Nat, t.ev (fun i => m.testBit i) = true → leastT t ≤ m
  | leaf b, _, m, _ => by simp [leastT]
  | node v l h, ⟨h0, h1, h2, h3, h4, h5⟩, m, hm => by
    have e : leastT (node v l h) = if l = leaf false then leastT h ||| 2 ^ v else if h = leaf false then leastT l else min (leastT l) (leastT h ||| 2 ^ v) := by conv => lhs; unfold leastT
    rw [e]
    simp only [Tr.ev] at hm
    by_cases hb : m.testBit v = true
    · rw [if_pos hb] at hm
      have hh : h ≠ leaf false := fun hh => by rw [hh] at hm; cases hm
      -- the bits above v
      have hm2 : h.ev (fun i => (2 ^ (v + 1) * (m / 2 ^ (v + 1))).testBit i) = true := by
        rw [← hm]
        refine ev_congr h h5 _ _ fun i hi => ?_
        rw [Nat.testBit_two_pow_mul, Nat.testBit_div_two_pow]
        have : i ≥ v + 1 := by omega
        simp only [this, decide_true, Bool.true_and]
        congr 1
        omega
      have ih := least_min h h5 _ hm2
      have hdm := Nat.div_add_mod m (2 ^ (v + 1))
      have hmod : 2 ^ v ≤ m % 2 ^ (v + 1) := by
        have hbit : (m % 2 ^ (v + 1)).testBit v = true := by rw [Nat.testBit_mod_two_pow]; simp [hb]
        exact Nat.ge_two_pow_of_testBit hbit
      have hz : leastT h % 2 ^ (v + 1) = 0 := by
        apply Nat.eq_of_testBit_eq
        intro i
        rw [Nat.testBit_mod_two_pow, Nat.zero_testBit]
        by_cases hi : i < v + 1
        · rw [least_low h h5 i (by omega)]; simp
        · simp [hi]
      have hq := Nat.div_add_mod (leastT h) (2 ^ (v + 1))
      have hor : leastT h ||| 2 ^ v = leastT h + 2 ^ v := by
        have := Nat.two_pow_add_eq_or_of_lt (i := v + 1) (b := 2 ^ v) (Nat.pow_lt_pow_right (by decide) (by omega)) (leastT h / 2 ^ (v + 1))
        rw [hz, Nat.add_zero] at hq
        rw [hq] at this
        exact this.symm
      have hle : leastT h ||| 2 ^ v ≤ m := by omega
      split
      · exact hle
      · first
        | omega
        | (rw [if_neg hh]; omega)
    · rw [if_neg hb] at hm
      have hl : l ≠ leaf false := fun hl => by rw [hl] at hm; cases hm
      have ih := least_min l h4 m hm
      rw [if_neg hl]
      split
      · exact ih
      · omega
theorem least_lt {n : Nat} : ∀ (t : Tr), below n t → leastT t < 2 ^ n
  | leaf _, _ => by simp only [leastT]; exact Nat.pow_pos (by decide)
  | node v l h, ⟨b0, b1, b2⟩ => by
    have il := least_lt l b1
    have ih := least_lt h b2
    have hp : leastT h ||| 2 ^ v < 2 ^ n := Nat.or_lt_two_pow ih (Nat.pow_lt_pow_right (by decide) b0)
    unfold leastT
    split
    · exact hp
    · split
      · exact il
      · omega
theorem cfg_nat (m : Nat) : cfg (m : Int) = fun i => m.testBit i := rfl

theorem leastLaw_spec {F : PH} {s0 : Array Value} {n : Int} (hs : SetV F s0 n) : Spec prog 7 #[.agg s0] F fun r F' => r = .bool true ∧ F.le F' := by
  refine c7 ?_
  unfold b7
  intro b1 hb1
  refine atI ?_
  have l1 := le_set_fresh (.cells s0 24) hb1
  have q1 := set_eq F b1 (.cells s0 24)
  generalize F.set b1 (.cells s0 24) = G at *
  refine (sanity_spec G).mono ?_
  rintro _ F1 ⟨rfl, la⟩
  replace q1 := la _ _ q1
  replace l1 := l1.trans la
  refine ⟨_, rfl, _, hs.size, row_whole q1, ?_⟩
  refine (made_spec (F := F1) (hs.le l1)).mono ?_
  rintro _ F2 ⟨w, t, rfl, kt, hw, lb⟩
  refine ⟨_, rfl, ?_⟩
  refine locD hw rfl (Los.nil _) fun b4 F3 lc h3 hc => ?_
  have l3 := l1.trans (lb.trans lc)
  clear hc hw lb lc
  have hsm := kt.small (nOf_le n)
  refine getD (b := b4) (d := dia t) h3 (by simp) fun w hw => ?_
  refine (least_spec hw).mono ?_
  rintro _ F4 ⟨rfl, ld⟩
  have h4 := h3.le ld
  have l4 := l3.trans ld
  rw [least_eq hsm]
  by_cases ht : t = leaf false
  · rw [if_pos ht]
    refine ⟨_, _, rfl, fun _ => ?_, fun h => by cases h⟩
    obtain ⟨w2, h5, hw2⟩ := h4 (b4, dia t) (by simp)
    refine ⟨w2, hw2.size, row_whole h5, ?_⟩
    refine (constant_spec (F := F4) false).mono ?_
    rintro _ F5 ⟨u, rfl, hu, le⟩
    refine ⟨_, rfl, row_whole (le _ _ h5), ?_⟩
    refine (same_spec (hw2.le le) hu (dia_fit hsm)).mono ?_
    rintro _ F6 ⟨rfl, lf⟩
    rw [ht]
    exact ⟨_, rfl, fun _ => ⟨fun _ => ⟨rfl, l4.trans (le.trans lf)⟩, fun h => absurd rfl h⟩, fun h => by simp at h⟩
  · rw [if_neg ht]
    refine ⟨_, _, rfl, fun h => (by cases h), fun _ => ?_⟩
    have hlt := least_lt t kt.2
    have h64 : (2 : Nat) ^ nOf n ≤ 2 ^ 6 := Nat.pow_le_pow_right (by decide) (nOf_le n)
    have fin : ∀ F', F4.le F' → b7j1 true b4 (leastT t) (fun r F' => r = .bool true ∧ F.le F') F' := fun F' le => by
      unfold b7j1
      refine getD (b := b4) (d := dia t) (h4.le le) (by simp) fun w hw => ?_
      refine (holds_spec hw (c := (leastT t : Int)) (by omega) (by omega)).mono ?_
      rintro _ F6 ⟨rfl, lf⟩
      rw [holds_eq hsm, cfg_nat, least_in t kt.1 ht]
      exact ⟨_, rfl, fun _ => ⟨fun _ => ⟨rfl, l4.trans (le.trans lf)⟩, fun h => by omega⟩, fun h => by cases h⟩
    refine ⟨fun m i F' => ∃ k : Nat, i = k ∧ k ≤ 64 ∧ m = 64 - k ∧ F4.le F', 64, ⟨0, rfl, by omega, rfl, PH.le_rfl⟩, ?_⟩
    rintro m i F5 ⟨k, rfl, hk, rfl, l5⟩
    unfold b7L1
    refine ⟨fun hlt1 => ⟨fun h64 => ?_, fun _ => fin _ l5⟩, fun _ => fin _ l5⟩
    refine getD (b := b4) (d := dia t) (h4.le l5) (by simp) fun w hw => ?_
    refine (holds_spec hw (c := (k : Int)) (by omega) (by omega)).mono ?_
    rintro _ F6 ⟨rfl, l6⟩
    rw [holds_eq hsm, cfg_nat]
    refine ⟨_, rfl, fun h => ?_, fun _ => ⟨64 - (k + 1), by omega, k + 1, by rw [wu64_eq (by omega) (by omega)]; omega, by omega, rfl, l5.trans l6⟩⟩
    have := least_min t kt.1 k h
    omega
end Go.Proofs.Ytafojmoeaneedaa
