/-
  DiagramLiterals, the plain law: conjunctions of literals.
-/
import Derived.Test.YtafojmoeaneedaaEt
namespace Go.Proofs.Ytafojmoeaneedaa
open Go Go.Proofs.Try Tr
set_option maxRecDepth 10000

/-- What a conjunction of literals says: the conditions in o hold, those in z do not. -/
def semB (o z : Nat) (c : Cf) : Bool := (List.range 64).all fun v => (!o.testBit v || c v) && (!z.testBit v || !c v)
theorem semB_iff {o z : Nat} {c : Cf} : semB o z c = true ↔ ∀ v, v < 64 → (o.testBit v = true → c v = true) ∧ (z.testBit v = true → c v = false) := by
  unfold semB
  simp only [List.all_eq_true, List.mem_range, Bool.and_eq_true, Bool.or_eq_true, Bool.not_eq_true']
  constructor
  · intro h v hv
    obtain ⟨h1, h2⟩ := h v hv
    exact ⟨fun ho => h1.resolve_left (by rw [ho]; simp), fun hz => h2.resolve_left (by rw [hz]; simp)⟩
  · intro h v hv
    obtain ⟨h1, h2⟩ := h v hv
    constructor
    · cases ho : o.testBit v with
      | false => exact .inl rfl
      | true => exact .inr (h1 ho)
    · cases hz : z.testBit v with
      | false => exact .inl rfl
      | true => exact .inr (h2 hz)
/-- The tree of a conjunction over the last n conditions. -/
def ch (o z : Nat) : Nat → Tr
  | 0 => leaf true
  | n + 1 => if o.testBit (63 - n) then node (63 - n) (leaf false) (ch o z n) else if z.testBit (63 - n) then node (63 - n) (ch o z n) (leaf false) else ch o z n
theorem ch_succ (o z n : Nat) : ch o z (n + 1) = if o.testBit (63 - n) then node (63 - n) (leaf false) (ch o z n) else if z.testBit (63 - n) then node (63 - n) (ch o z n) (leaf false) else ch o z n := rfl
theorem ch_facts (o z : Nat) : ∀ n, n ≤ 64 → (ch o z n).ok ∧ 64 - n ≤ (ch o z n).top ∧ ch o z n ≠ leaf false ∧ cnt (ch o z n) ≤ n
  | 0, _ => ⟨trivial, by simp [ch, top], by simp [ch], by simp [ch, cnt]⟩
  | n + 1, hn => by
    obtain ⟨h1, h2, h3, h4⟩ := ch_facts o z n (by omega)
    rw [ch_succ]
    split
    · exact ⟨⟨by omega, by simp only [top]; omega, by omega, h3.symm, trivial, h1⟩, by simp only [top]; omega, by simp, by simp only [cnt]; omega⟩
    · split
      · exact ⟨⟨by omega, by omega, by simp only [top]; omega, h3, h1, trivial⟩, by simp only [top]; omega, by simp, by simp only [cnt]; omega⟩
      · exact ⟨h1, by omega, h3, by omega⟩
theorem ch_ev (o z : Nat) (c : Cf) : ∀ n, n ≤ 64 → (∀ v, ¬ (o.testBit v = true ∧ z.testBit v = true)) → ((ch o z n).ev c = true ↔ ∀ v, 64 - n ≤ v → v < 64 → (o.testBit v = true → c v = true) ∧ (z.testBit v = true → c v = false))
  | 0, _, _ => by
    simp only [ch, Tr.ev, true_iff]
    intro v h1 h2
    omega
  | n + 1, hn, hd => by
    have ih := ch_ev o z c n (by omega) hd
    have key : (∀ v, 64 - (n + 1) ≤ v → v < 64 → (o.testBit v = true → c v = true) ∧ (z.testBit v = true → c v = false)) ↔
        ((o.testBit (63 - n) = true → c (63 - n) = true) ∧ (z.testBit (63 - n) = true → c (63 - n) = false)) ∧ (ch o z n).ev c = true := by
      rw [ih]
      constructor
      · intro h
        exact ⟨h _ (by omega) (by omega), fun v h1 h2 => h v (by omega) h2⟩
      · rintro ⟨h1, h2⟩ v h3 h4
        by_cases hv : v = 63 - n
        · subst hv; exact h1
        · exact h2 v (by omega) h4
    rw [key]
    rw [ch_succ]
    have hdv := hd (63 - n)
    split
    · rename_i ho
      have hz : ¬ z.testBit (63 - n) = true := fun h => hdv ⟨ho, h⟩
      simp only [Tr.ev]
      cases hc : c (63 - n) <;> simp [ho, hz]
    · rename_i ho
      split
      · rename_i hz
        simp only [Tr.ev]
        cases hc : c (63 - n) <;> simp [ho, hz]
      · rename_i hz
        simp [ho, hz]
theorem ch_least (o z : Nat) (i : Nat) : ∀ n, n ≤ 64 → (leastT (ch o z n)).testBit i = (o.testBit i && decide (64 - n ≤ i) && decide (i < 64))
  | 0, _ => by
    simp only [ch, leastT, Nat.zero_testBit]
    by_cases h : i < 64
    · have : ¬ 64 ≤ i := by omega
      simp [this]
    · simp [h]
  | n + 1, hn => by
    have ih := ch_least o z i n (by omega)
    obtain ⟨_, _, h3, _⟩ := ch_facts o z n (by omega)
    rw [ch_succ]
    split
    · rename_i ho
      simp only [leastT, if_true, Nat.testBit_or, ih, Nat.testBit_two_pow]
      by_cases hi : i = 63 - n
      · subst hi
        have h1 : 63 - n < 64 := by omega
        have h2 : 64 - (n + 1) ≤ 63 - n := by omega
        simp [ho, h1, h2]
      · have h1 : (63 - n = i) = False := by simp; omega
        have h2 : (64 - n ≤ i) ↔ (64 - (n + 1) ≤ i) := by omega
        simp [h1, h2]
    · rename_i ho
      have e : (o.testBit i && decide (64 - n ≤ i) && decide (i < 64)) = (o.testBit i && decide (64 - (n + 1) ≤ i) && decide (i < 64)) := by
        by_cases hi : i = 63 - n
        · subst hi
          simp [ho]
        · have h2 : (64 - n ≤ i) ↔ (64 - (n + 1) ≤ i) := by omega
          simp [h2]
      split
      · simp only [leastT, if_neg h3, if_true, ih, e]
      · rw [ih, e]

/-- The tree of a conjunction. -/
def conj (o z : Nat) : Tr := if o &&& z ≠ 0 then leaf false else ch o z 64
theorem and_zero {o z : Nat} (h : ¬ o &&& z ≠ 0) (v : Nat) : ¬ (o.testBit v = true ∧ z.testBit v = true) := by
  rintro ⟨h1, h2⟩
  have h0 : o &&& z = 0 := by omega
  have := Nat.testBit_and o z v
  rw [h0, h1, h2] at this
  simp at this
theorem conj_small (o z : Nat) : Small (conj o z) := by
  unfold conj
  split
  · exact leaf_small _
  · obtain ⟨h1, _, _, h4⟩ := ch_facts o z 64 (by omega)
    exact small_of h1 (by omega)
theorem conj_ev {o z : Nat} (ho : o < 2 ^ 64) (c : Cf) : (conj o z).ev c = semB o z c := by
  unfold conj
  split
  · rename_i h
    have : ∃ v, (o &&& z).testBit v = true := Nat.exists_testBit_of_ne_zero h
    obtain ⟨v, hv⟩ := this
    rw [Nat.testBit_and, Bool.and_eq_true] at hv
    have hv64 : v < 64 := by
      rcases Nat.lt_or_ge v 64 with h | h
      · exact h
      · have := Nat.testBit_lt_two_pow (x := o) (i := v) (Nat.lt_of_lt_of_le ho (Nat.pow_le_pow_right (by decide) h))
        rw [this] at hv
        simp at hv
    show false = semB o z c
    cases hs : semB o z c with
    | false => rfl
    | true =>
      obtain ⟨h1, h2⟩ := semB_iff.1 hs v hv64
      have a := h1 hv.1
      have b := h2 hv.2
      rw [a] at b
      cases b
  · rename_i h
    have h1 := ch_ev o z c 64 (by omega) (and_zero h)
    rw [Bool.eq_iff_iff, h1, semB_iff]
    constructor
    · intro h v hv
      exact h v (by omega) hv
    · intro h v _ hv
      exact h v hv
theorem conj_least {o z : Nat} (ho : o < 2 ^ 64) (h : ¬ o &&& z ≠ 0) : leastT (conj o z) = o ∧ conj o z ≠ leaf false := by
  unfold conj
  rw [if_neg h]
  refine ⟨Nat.eq_of_testBit_eq fun i => ?_, (ch_facts o z 64 (by omega)).2.2.1⟩
  rw [ch_least o z i 64 (by omega)]
  by_cases hi : i < 64
  · simp [hi]
  · have := Nat.testBit_lt_two_pow (x := o) (i := i) (Nat.lt_of_lt_of_le ho (Nat.pow_le_pow_right (by decide) (by omega)))
    simp [this]
theorem semB_one {o z v : Nat} (hv : v < 64) (c : Cf) : semB (o ||| 2 ^ v) z c = (c v && semB o z c) := by
  rw [Bool.eq_iff_iff, Bool.and_eq_true, semB_iff, semB_iff]
  simp only [Nat.testBit_or, Nat.testBit_two_pow, Bool.or_eq_true, decide_eq_true_eq]
  constructor
  · intro h
    exact ⟨(h v hv).1 (.inr rfl), fun u hu => ⟨fun ho => (h u hu).1 (.inl ho), (h u hu).2⟩⟩
  · rintro ⟨h1, h2⟩ u hu
    refine ⟨?_, (h2 u hu).2⟩
    rintro (ho | rfl)
    · exact (h2 u hu).1 ho
    · exact h1
theorem semB_zero {o z v : Nat} (hv : v < 64) (c : Cf) : semB o (z ||| 2 ^ v) c = (!c v && semB o z c) := by
  rw [Bool.eq_iff_iff, Bool.and_eq_true, semB_iff, semB_iff]
  simp only [Nat.testBit_or, Nat.testBit_two_pow, Bool.or_eq_true, decide_eq_true_eq, Bool.not_eq_true']
  constructor
  · intro h
    exact ⟨(h v hv).2 (.inr rfl), fun u hu => ⟨(h u hu).1, fun ho => (h u hu).2 (.inl ho)⟩⟩
  · rintro ⟨h1, h2⟩ u hu
    refine ⟨(h2 u hu).1, ?_⟩
    rintro (ho | rfl)
    · exact (h2 u hu).2 ho
    · exact h1

/-! literals -/
def litT (v : Nat) (x : Bool) : Tr := if x then tv v else node v (leaf true) (leaf false)
theorem litT_small {v : Nat} (h : v < 64) (x : Bool) : Small (litT v x) := by
  cases x
  · exact small_of ⟨h, h, h, by simp, trivial, trivial⟩ (by simp [litT, cnt])
  · exact tv_small h
theorem litT_ev (v : Nat) (x : Bool) (c : Cf) : (litT v x).ev c = (if x then c v else !c v) := by
  cases x <;> cases h : c v <;> simp [litT, Tr.ev, h]
theorem not_eq {a t : Tr} (ha : Small a) (ht : Small t) (he : ∀ c, t.ev c = !a.ev c) : bin (fun x _ => !x) (dia a) none0 = (dia t, 0) := by
  rw [dia_none0]
  exact bin_eq ha (leaf_small _) ht he
theorem literal_spec {F : PH} {v : Nat} (hv : v < 64) (x : Bool) : Spec prog 20 #[vi v, .bool x] F fun r F' => ∃ w, r = .agg w ∧ DV F' w (dia (litT v x)) ∧ F.le F' := by
  refine c20 ?_
  unfold b20
  intro b4 hb4
  refine atI ?_
  have l4 := le_set_fresh (.cells #[Value.slice none 0 0, Value.int .i64 0] 28) hb4
  have q4 := set_eq F b4 (.cells #[Value.slice none 0 0, Value.int .i64 0] 28)
  generalize F.set b4 (.cells #[Value.slice none 0 0, Value.int .i64 0] 28) = F4 at *
  have hvar := var_spec (F := del1 F4 b4) v
  rw [varD_eq hv] at hvar
  refine (callDR hvar q4).mono ?_
  rintro _ F5 ⟨w, rfl, ⟨G, hw, lG, gG⟩, l5, q5⟩
  refine ⟨_, _, rfl, ?_⟩
  intro b5 hb5
  refine atI ?_
  refine stW (set_eq _ _ _) hw.size rfl hw.st ?_
  rw [set_twice]
  have n45 : b4 ≠ b5 := ne_of_fresh hb5 q5
  have l6 := le_set_fresh (.cells w 28) hb5
  have q6 : (F5.set b5 (.cells w 28)) b4 = _ := (set_ne _ _ n45).trans q5
  have q56 := set_eq F5 b5 (.cells w 28)
  have hb5G : G b5 = none := le_none lG hb5
  have lF := (l4.trans l5).trans l6
  have fb4 : F b4 = none := hb4
  have fb5 : F b5 = none := le_none (l4.trans l5) hb5
  -- the end: the local variable is returned
  have fin : ∀ (F' : PH) (u : Array Value) (H : PH), F.le F' → F' b5 = some (.cells u 28) → F' b4 = some (.cells #[Value.slice none 0 0, Value.int .i64 0] 28) → DV H u (dia (litT v x)) → H.le F' → H b4 = none →
      b20j1 b4 b5 (fun r F'' => ∃ w, r = .agg w ∧ DV F'' w (dia (litT v x)) ∧ F.le F'') F' := by
    intro F' u H h1 h2 h3 h4 h5 h6
    unfold b20j1
    refine ⟨u, h4.size, row_whole h2, ?_⟩
    exact ret2 (K := fun vres F'' => ∃ w, Value.agg vres = .agg w ∧ DV F'' w (dia (litT v x)) ∧ F.le F'') h4 h3 rfl ⟨_, rfl, h4.le (le_set_new h5 h6), le_set_new h1 fb4⟩
  refine ⟨fun hx => ?_, fun hx => ?_⟩
  · have hx' : x = false := by simpa using hx
    refine ⟨w, hw.size, row_whole q56, ?_⟩
    have hwd : DV (del2 (F5.set b5 (.cells w 28)) b4 b5) w (dia (tv v)) := hw.le fun y ob hy => by
      have h1 : y ≠ b4 := fun e => by rw [e, gG] at hy; cases hy
      have h2 : y ≠ b5 := fun e => by rw [e, hb5G] at hy; cases hy
      rw [del2_of h1 h2, set_ne _ _ h2]
      exact lG _ _ hy
    have hn := not_spec hwd
    rw [not_eq (tv_small hv) (litT_small hv x) (fun c => by rw [litT_ev, hx']; cases h : c v <;> simp [Tr.ev, h])] at hn
    refine (hn.upon (del2_le _ _ _)).mono ?_
    rintro _ F7 ⟨H, ⟨⟨u, rfl, hu⟩, lH0⟩, lH, hk⟩
    obtain ⟨k4, g4⟩ := hk b4 _ (del2_1 _ _ _) q6
    obtain ⟨k5, g5⟩ := hk b5 _ (del2_2 _ _ _) q56
    have l7 : (F5.set b5 (.cells w 28)).le F7 := fun y ob hy => by
      by_cases h1 : y = b4
      · subst h1; rw [q6] at hy; rw [k4]; exact hy
      · by_cases h2 : y = b5
        · subst h2; rw [q56] at hy; rw [k5]; exact hy
        · exact lH _ _ (lH0 _ _ (by rw [del2_of h1 h2]; exact hy))
    refine ⟨_, _, rfl, ?_⟩
    refine stW k5 hu.size hw.size hu.st ?_
    exact fin _ u H (le_set_new (lF.trans l7) fb5) (set_eq _ _ _) (by rw [set_ne _ _ n45]; exact k4) hu (le_set_new lH g5) g4
  · have hx' : x = true := by simpa using hx
    subst hx'
    exact fin _ w G lF q56 q6 hw (lG.trans l6) gG
end Go.Proofs.Ytafojmoeaneedaa
