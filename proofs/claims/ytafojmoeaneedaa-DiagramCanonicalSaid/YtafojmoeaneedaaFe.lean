/-
  DiagramCanonical: the plain law; the walk.
-/
import Derived.Test.YtafojmoeaneedaaEt
import Derived.Test.YtafojmoeaneedaaFb
import Derived.Test.YtafojmoeaneedaaEv
import Derived.Test.YtafojmoeaneedaaGL3
namespace Go.Proofs.Ytafojmoeaneedaa
open Go Go.Proofs.Try Tr
set_option maxRecDepth 10000

/-! numbers of configurations -/
def bitsN : Nat → Cf → Nat
  | 0, _ => 0
  | n + 1, x => bitsN n x + (if x n then 2 ^ n else 0)
theorem bitsN_lt (x : Cf) : ∀ n, bitsN n x < 2 ^ n
  | 0 => by simp [bitsN]
  | n + 1 => by
    have := bitsN_lt x n
    simp only [bitsN, Nat.pow_succ]
    split <;> omega
theorem bitsN_bit (x : Cf) : ∀ n i, (bitsN n x).testBit i = (decide (i < n) && x i)
  | 0, i => by simp [bitsN]
  | n + 1, i => by
    have h := bitsN_lt x n
    have ih := bitsN_bit x n i
    simp only [bitsN]
    have key : (2 ^ n * (if x n then 1 else 0) + bitsN n x).testBit i = (decide (i < n + 1) && x i) := by
      rw [Nat.two_pow_add_eq_or_of_lt h, Nat.testBit_or, ih, Nat.testBit_two_pow_mul]
      by_cases hi : i = n
      · subst hi
        cases hx : x i <;> simp
      · by_cases hl : i < n
        · have h1 : ¬ n ≤ i := by omega
          have h2 : i < n + 1 := by omega
          simp [h1, h2, hl]
        · have h2 : ¬ i < n + 1 := by omega
          simp only [hl, h2, decide_false, Bool.false_and, Bool.or_false]
          split
          · have : i - n ≠ 0 := by omega
            have h3 : (1 : Nat).testBit (i - n) = false := by
              rw [Nat.testBit_eq_decide_div_mod_eq]
              have : 1 / 2 ^ (i - n) = 0 := Nat.div_eq_of_lt (Nat.one_lt_two_pow (by omega))
              rw [this]
              rfl
            rw [h3]
            simp
          · simp
    cases hx : x n
    · rw [hx] at key
      simpa using key
    · rw [hx] at key
      simp only [if_true, Nat.mul_one] at key ⊢
      rw [Nat.add_comm]
      exact key
theorem bitsN_eq {n k : Nat} (hk : k < 2 ^ n) (x : Cf) : bitsN n x = k ↔ ∀ i, i < n → x i = k.testBit i := by
  constructor
  · rintro rfl i hi
    rw [bitsN_bit]
    simp [hi]
  · intro h
    apply Nat.eq_of_testBit_eq
    intro i
    rw [bitsN_bit]
    by_cases hi : i < n
    · simp [hi, h i hi]
    · have := Nat.testBit_lt_two_pow (x := k) (i := i) (Nat.lt_of_lt_of_le hk (Nat.pow_le_pow_right (by decide) (by omega)))
      simp [hi, this]
/-- What a tree over n conditions says depends on these only. -/
theorem ev_below {n : Nat} : ∀ (t : Tr), below n t → ∀ c d : Cf, (∀ i, i < n → c i = d i) → t.ev c = t.ev d
  | leaf _, _, _, _, _ => rfl
  | node v l h, ⟨b0, b1, b2⟩, c, d, hc => by
    simp only [Tr.ev]
    rw [hc v b0, ev_below l b1 c d hc, ev_below h b2 c d hc]
theorem ev_bits {n : Nat} {t : Tr} (h : below n t) (x : Cf) : t.ev x = t.ev (cfg (bitsN n x)) := by
  refine ev_below t h _ _ fun i hi => ?_
  show x i = (bitsN n x).testBit i
  rw [bitsN_bit]
  simp [hi]

theorem callD2 {f : FuncId} {args : Array Value} {F : PH} {x x' : Nat} {o o' : Obj} {d : Dia} (h : Spec prog f args (del2 F x x') fun r F' => ∃ w, r = .agg w ∧ DV F' w d ∧ (del2 F x x').le F') (hx : F x = some o) (hx' : F x' = some o') :
    Spec prog f args F fun r F' => ∃ w, r = .agg w ∧ (∃ G, DV G w d ∧ G.le F' ∧ G x = none ∧ G x' = none) ∧ F.le F' ∧ F' x = some o ∧ F' x' = some o' :=
  (h.upon (del2_le F x x')).mono fun r F' ⟨G, ⟨w, hr, hw, lg⟩, lG, hk⟩ => by
    obtain ⟨k1, g1⟩ := hk x _ (del2_1 _ _ _) hx
    obtain ⟨k2, g2⟩ := hk x' _ (del2_2 _ _ _) hx'
    refine ⟨w, hr, ⟨G, hw, lG, g1, g2⟩, fun z ob hz => ?_, k1, k2⟩
    by_cases h1 : z = x
    · subst h1; rw [hx] at hz; rw [k1]; exact hz
    · by_cases h2 : z = x'
      · subst h2; rw [hx'] at hz; rw [k2]; exact hz
      · exact lG _ _ (lg _ _ (by rw [del2_of h1 h2]; exact hz))
theorem del2_mono {F G : PH} {x y : Nat} (h : F.le G) : (del2 F x y).le (del2 G x y) := fun z o hz => by
  have h1 : z ≠ x := fun e => by rw [e, del2_1] at hz; cases hz
  have h2 : z ≠ y := fun e => by rw [e, del2_2] at hz; cases hz
  rw [del2_of h1 h2] at hz ⊢
  exact h _ _ hz

section
variable {F0 : PH} {b2 b6 b7 b8 n : Nat} {ta tb : Tr}
/-- The variable c. -/
structure CV (F0 F : PH) (b8 : Nat) (tc : Tr) : Prop where
  le : F0.le F
  nb : F0 b8 = none
  ex : ∃ w, F b8 = some (.cells w 28) ∧ DV (del1 F b8) w (dia tc)

theorem can_end {F : PH} (ka : Sx n ta) (kb : Sx n tb) (hn : n ≤ 6) (h6 : Lo F0 b6 (dia ta)) (h7 : Lo F0 b7 (dia tb)) {tc : Tr} (kc : Sx n tc) (hc : CV F0 F b8 tc) (he : ∀ x, tc.ev x = (decide (bitsN n x < 2 ^ n) && ta.ev x)) {eq : Bool}
    (heq : eq = true ↔ ∀ j, j < 2 ^ n → ta.ev (cfg (j : Nat)) = tb.ev (cfg (j : Nat))) {R : Value → PH → Prop} (hR : ∀ F', F0.le F' → R (.bool true) F') : b3j1 true b6 b7 b8 eq R F := by
  obtain ⟨hle, hnb, w, h8, hw⟩ := hc
  have sa := ka.small hn
  have sb := kb.small hn
  have sc := kc.small hn
  have hca : tc = ta := eq_of_ev kc.1 ka.1 fun x => by rw [he]; simp [bitsN_lt]
  have hwF := hw.le (del1_le _ _)
  unfold b3j1
  refine ⟨w, hw.size, row_whole h8, ?_⟩
  refine (check_spec hwF).mono ?_
  rintro _ F1 ⟨rfl, l1⟩
  rw [chk_small sc]
  obtain ⟨u, q6, hu⟩ := h6.le (hle.trans l1)
  refine ⟨_, rfl, fun _ => ?_, fun h => absurd rfl h⟩
  refine ⟨u, hu.size, row_whole q6, w, hw.size, row_whole (l1 _ _ h8), ?_⟩
  refine (same_spec hu (hwF.le l1) (dia_fit sa)).mono ?_
  rintro _ F2 ⟨rfl, l2⟩
  obtain ⟨u, q6, hu⟩ := h6.le (hle.trans (l1.trans l2))
  obtain ⟨y, q7, hy⟩ := h7.le (hle.trans (l1.trans l2))
  refine ⟨_, rfl, fun _ => ?_, fun h => by simp [hca] at h⟩
  refine ⟨u, hu.size, row_whole q6, y, hy.size, row_whole q7, ?_⟩
  refine (same_spec hu hy (dia_fit sa)).mono ?_
  rintro _ F3 ⟨rfl, l3⟩
  refine ⟨_, rfl, fun _ => hR _ (hle.trans (l1.trans (l2.trans l3))), fun h => ?_⟩
  exfalso
  have key : decide (dia ta = dia tb) = eq := by
    rw [Bool.eq_iff_iff, decide_eq_true_iff, same_iff ka.1 kb.1, heq]
    constructor
    · rintro rfl j _; rfl
    · intro hj
      refine eq_of_ev ka.1 kb.1 fun x => ?_
      rw [ev_bits ka.2, ev_bits kb.2]
      exact hj _ (bitsN_lt x n)
  rw [key] at h
  simp at h

theorem can_j4 {F : PH} (ka : Sx n ta) (kb : Sx n tb) (hn : n ≤ 6) (h6 : Lo F0 b6 (dia ta)) (h7 : Lo F0 b7 (dia tb)) {tc : Tr} (hc : CV F0 F b8 tc) {k : Nat} (hk : k < 2 ^ n) {eq : Bool} {N : Bool → Int → PH → Prop} {R : Value → PH → Prop}
    (hN : ∀ F', CV F0 F' b8 tc → N (if eq = true then (ta.ev (cfg (k : Nat)) == tb.ev (cfg (k : Nat))) else false) ((k + 1 : Nat) : Int) F') : b3j4 N b2 true b6 b7 b8 eq k R F := by
  have h64 : (2 : Nat) ^ n ≤ 2 ^ 6 := Nat.pow_le_pow_right (by decide) hn
  have hw1 : IntKind.i64.wrap ((k : Int) + 1) = ((k + 1 : Nat) : Int) := w64s (by omega)
  have hwk : IntKind.u64.wrap (k : Int) = (k : Int) := wu64_eq (by omega) (by omega)
  unfold b3j4
  refine ⟨fun he => ?_, fun he => ?_⟩
  · obtain ⟨u, q6, hu⟩ := h6.le hc.le
    obtain ⟨y, q7, hy⟩ := h7.le hc.le
    rw [hwk]
    refine ⟨u, hu.size, row_whole q6, y, hy.size, row_whole q7, ?_⟩
    refine (holds_spec hu (c := (k : Int)) (by omega) (by omega)).mono ?_
    rintro _ F1 ⟨rfl, l1⟩
    refine ⟨_, rfl, row_whole (l1 _ _ q7), ?_⟩
    refine (holds_spec (hy.le l1) (c := (k : Int)) (by omega) (by omega)).mono ?_
    rintro _ F2 ⟨rfl, l2⟩
    rw [holds_eq (ka.small hn), holds_eq (kb.small hn)]
    refine ⟨_, rfl, ?_⟩
    unfold b3j2
    rw [hw1]
    obtain ⟨hle, hnb, w, h8, hw⟩ := hc
    have := hN F2 ⟨hle.trans (l1.trans l2), hnb, w, (l1.trans l2) _ _ h8, hw.le (del1_mono (l1.trans l2))⟩
    rw [if_pos he] at this
    exact this
  · unfold b3j2
    rw [hw1]
    have := hN F hc
    rw [if_neg (by simp [he])] at this
    exact this

theorem canonical_loop {F : PH} (ka : Sx n ta) (kb : Sx n tb) (hn : n ≤ 6) (h6 : Lo F0 b6 (dia ta)) (h7 : Lo F0 b7 (dia tb)) {s0 : Array Value} {ns : Int} (h2 : F0 b2 = some (.cells s0 24)) (hs : SetV F0 s0 ns) (hns : nOf ns = n)
    (hc : CV F0 F b8 (leaf false)) {R : Value → PH → Prop} (hR : ∀ F', F0.le F' → R (.bool true) F') :
    ∃ (I1 : Nat → Bool → Int → PH → Prop) (m1 : Nat), I1 m1 true (0 : Int) F ∧ ∀ m1 e k F, I1 m1 e k F → b3L1 (fun e k F => ∃ m', m' < m1 ∧ I1 m' e k F) b2 true b6 b7 b8 R e k F := by
  have h64 : (2 : Nat) ^ n ≤ 2 ^ 6 := Nat.pow_le_pow_right (by decide) hn
  refine ⟨fun m e i F' => ∃ (k : Nat) (tc : Tr), i = k ∧ k ≤ 2 ^ n ∧ m = 2 ^ n - k ∧ Sx n tc ∧ CV F0 F' b8 tc ∧ (∀ x, tc.ev x = (decide (bitsN n x < k) && ta.ev x)) ∧ (e = true ↔ ∀ j, j < k → ta.ev (cfg (j : Nat)) = tb.ev (cfg (j : Nat))), 2 ^ n,
    ⟨0, leaf false, rfl, Nat.zero_le _, rfl, Sx.leaf _ _, hc, fun x => by simp [Tr.ev], by simp⟩, ?_⟩
  rintro m e i F1 ⟨k, tc, rfl, hk, rfl, kc, hcv, htc, heq⟩
  unfold b3L1
  have hle1 := hcv.le
  refine ⟨s0, hs.size, row_whole (hle1 _ _ h2), ?_⟩
  refine (size_spec (hs.le hle1)).mono ?_
  rintro _ F2 ⟨rfl, l2⟩
  rw [hns]
  have hcv2 : CV F0 F2 b8 tc := by
    obtain ⟨hle, hnb, w, h8, hw⟩ := hcv
    exact ⟨hle.trans l2, hnb, w, l2 _ _ h8, hw.le (del1_mono l2)⟩
  have hwn : IntKind.u64.wrap (n : Int) = (n : Int) := wu64_eq (by omega) (by omega)
  have hpw : IntKind.i64.wrap ((1 : Int) * 2 ^ (min (Int.toNat (n : Int)) (IntKind.i64).bits)) = ((2 ^ n : Nat) : Int) := by
    have hm : min (Int.toNat (n : Int)) (IntKind.i64).bits = n := by simp only [IntKind.bits, Int.toNat_natCast]; omega
    have e1 : (1 : Int) * 2 ^ n = ((2 ^ n : Nat) : Int) := by simp
    rw [hm, e1]
    generalize 2 ^ n = q at *
    rw [w64_eq (by omega) (by omega)]
  refine ⟨_, rfl, ?_⟩
  rw [hwn, hpw]
  refine ⟨by omega, fun hlt => ?_, fun hge => ?_⟩
  · have hk' : k < 2 ^ n := by omega
    obtain ⟨hle, hnb, w, h8, hw⟩ := hcv2
    refine (callD (constant_spec (F := del1 F2 b8) true) h8).mono ?_
    rintro _ F3 ⟨u, rfl, ⟨G, hu, lG, gG⟩, l3, h83⟩
    refine ⟨_, rfl, ?_⟩
    intro b11 hb11
    refine atI ?_
    refine stW (set_eq _ _ _) hu.size rfl hu.st ?_
    rw [set_twice]
    have f11 : F0 b11 = none := le_none (hle.trans l3) hb11
    have n11 : b8 ≠ b11 := ne_of_fresh hb11 h83
    have lx := le_set_fresh (.cells u 28) hb11
    have hw11 : DV (del2 (F3.set b11 (.cells u 28)) b8 b11) w (dia tc) := hw.le fun y ob hy => by
      have h1 : y ≠ b8 := fun e => by rw [e, del1_1] at hy; cases hy
      rw [del1_of h1] at hy
      have h2 : y ≠ b11 := ne_of_fresh hb11 (l3 _ _ hy)
      rw [del2_of h1 h2]
      exact lx _ _ (l3 _ _ hy)
    have hu11 : DV (del2 (F3.set b11 (.cells u 28)) b8 b11) u (dia (leaf true)) := hu.beside2 (lG.trans lx) gG (le_none lG hb11)
    -- the inner loop
    refine ⟨fun m i F' => ∃ (v : Nat) (t1 : Tr), i = v ∧ v ≤ n ∧ m = n - v ∧ Sx n t1 ∧ F0.le F' ∧ (∀ x, t1.ev x = true ↔ ∀ i, i < v → x i = k.testBit i) ∧
      (∃ w, F' b8 = some (.cells w 28) ∧ DV (del2 F' b8 b11) w (dia tc)) ∧ ∃ u, F' b11 = some (.cells u 28) ∧ DV (del2 F' b8 b11) u (dia t1), n,
      ⟨0, leaf true, rfl, by omega, by omega, Sx.leaf _ _, hle.trans (l3.trans lx), fun x => by simp [Tr.ev], ⟨w, lx _ _ h83, hw11⟩, u, set_eq _ _ _, hu11⟩, ?_⟩
    rintro m i F4 ⟨v, t1, rfl, hv, rfl, k1, hle4, ht1, ⟨w4, h84, hw4⟩, u4, h114, hu4⟩
    unfold b3L2
    refine ⟨s0, hs.size, row_whole (hle4 _ _ h2), ?_⟩
    refine (size_spec (hs.le hle4)).mono ?_
    rintro _ F5 ⟨rfl, l5⟩
    rw [hns]
    have h85 := l5 _ _ h84
    have h115 := l5 _ _ h114
    have hw5 := hw4.le (del2_mono (x := b8) (y := b11) l5)
    have hu5 := hu4.le (del2_mono (x := b8) (y := b11) l5)
    have hle5 := hle4.trans l5
    refine ⟨_, rfl, fun hlt2 => ?_, fun hge2 => ?_⟩
    · have hvn : v < n := by omega
      have hwv : IntKind.u64.wrap (v : Int) = (v : Int) := wu64_eq (by omega) (by omega)
      have hbit : decide ((Int.tmod (Int.fdiv (k : Int) (2 ^ (min (Int.toNat (IntKind.u64.wrap (v : Int))) (IntKind.i64).bits))) (2 : Int)) = (1 : Int)) = k.testBit v := by
        rw [hwv]
        exact bit_test2 (c := (k : Int)) (by omega) (by omega) (v := v) (by omega)
      rw [hbit]
      refine ⟨u4, hu5.size, row_whole h115, by rw [hwv]; omega, ?_⟩
      refine (callD2 (literal_spec (F := del2 F5 b8 b11) (by omega : v < 64) (k.testBit v)) h85 h115).mono ?_
      rintro _ F6 ⟨y, rfl, ⟨G6, hy, lG6, g8, g11⟩, l6, h86, h116⟩
      refine ⟨_, rfl, row_whole h116, ?_⟩
      have klit : Sx n (litT v (k.testBit v)) := by
        unfold litT
        split
        · exact Sx.tv hvn hn
        · exact ⟨⟨by omega, by simp only [top]; omega, by simp only [top]; omega, by simp, trivial, trivial⟩, hvn, trivial, trivial⟩
      have kand := k1.ap2 (o := oAnd) klit
      have hsp := and_spec (hu5.le (del2_mono l6)) (hy.beside2 lG6 g8 g11)
      rw [bin_ap (k1.small hn) (klit.small hn), lim_small (kand.small hn)] at hsp
      refine (callDR2 hsp h86 h116).mono ?_
      rintro _ F7 ⟨y2, rfl, ⟨G7, hy2, lG7, g87, g117⟩, l7, h87, h117⟩
      refine ⟨_, _, rfl, ?_⟩
      refine stW h117 hy2.size hu5.size hy2.st ?_
      refine ⟨n - (v + 1), by omega, v + 1, _, w64s (by omega), by omega, rfl, kand, le_set_new (hle5.trans (l6.trans l7)) f11, fun x => ?_, ⟨w4, by rw [set_ne _ _ n11]; exact h87, hw5.le fun z ob hz => ?_⟩, y2, set_eq _ _ _, hy2.le fun z ob hz => ?_⟩
      · rw [(ap2_facts k1.1 klit.1).2, litT_ev, Bool.and_eq_true, ht1]
        constructor
        · rintro ⟨h1, h2⟩ i hi
          by_cases hiv : i < v
          · exact h1 i hiv
          · obtain rfl : i = v := by omega
            cases hb : k.testBit i <;> rw [hb] at h2 <;> simpa using h2
        · intro h
          refine ⟨fun i hi => h i (by omega), ?_⟩
          have := h v (by omega)
          cases hb : k.testBit v <;> rw [hb] at this <;> simp [this]
      · have h1 : z ≠ b8 := fun e => by rw [e, del2_1] at hz; cases hz
        have h2 : z ≠ b11 := fun e => by rw [e, del2_2] at hz; cases hz
        rw [del2_of h1 h2] at hz ⊢
        rw [set_ne _ _ h2]
        exact l7 _ _ (l6 _ _ hz)
      · have h1 : z ≠ b8 := fun e => by rw [e, g87] at hz; cases hz
        have h2 : z ≠ b11 := fun e => by rw [e, g117] at hz; cases hz
        rw [del2_of h1 h2, set_ne _ _ h2]
        exact lG7 _ _ hz
    · obtain rfl : v = n := by omega
      have hone : ∀ x, t1.ev x = decide (bitsN v x = k) := fun x => by
        rw [Bool.eq_iff_iff, ht1, decide_eq_true_iff, bitsN_eq hk']
      -- what the round leaves
      have next : ∀ (tc' : Tr) (F' : PH), Sx v tc' → CV F0 F' b8 tc' → (∀ x, tc'.ev x = (decide (bitsN v x < k + 1) && ta.ev x)) →
          ∃ m', m' < 2 ^ v - k ∧ ∃ (k' : Nat) (tc : Tr), ((k + 1 : Nat) : Int) = k' ∧ k' ≤ 2 ^ v ∧ m' = 2 ^ v - k' ∧ Sx v tc ∧ CV F0 F' b8 tc ∧ (∀ x, tc.ev x = (decide (bitsN v x < k') && ta.ev x)) ∧
            ((if e = true then (ta.ev (cfg (k : Nat)) == tb.ev (cfg (k : Nat))) else false) = true ↔ ∀ j, j < k' → ta.ev (cfg (j : Nat)) = tb.ev (cfg (j : Nat))) := fun tc' F' h1 h2 h3 =>
        ⟨2 ^ v - (k + 1), by omega, k + 1, tc', rfl, by omega, rfl, h1, h2, h3, by
          constructor
          · intro h j hj
            by_cases he : e = true
            · rw [if_pos he] at h
              by_cases hjk : j < k
              · exact (heq.1 he) j hjk
              · obtain rfl : j = k := by omega
                exact eq_of_beq h
            · rw [if_neg he] at h
              cases h
          · intro h
            have he : e = true := heq.2 fun j hj => h j (by omega)
            rw [if_pos he]
            exact beq_iff_eq.2 (h k (by omega))⟩
      unfold b3j3
      have hwk : IntKind.u64.wrap (k : Int) = (k : Int) := wu64_eq (by omega) (by omega)
      rw [hwk]
      obtain ⟨ua, q6, hua⟩ := h6.le hle5
      refine ⟨ua, hua.size, row_whole q6, ?_⟩
      refine (holds_spec hua (c := (k : Int)) (by omega) (by omega)).mono ?_
      rintro _ F6 ⟨rfl, l6⟩
      rw [holds_eq (ka.small hn)]
      have h86 := l6 _ _ h85
      have h116 := l6 _ _ h115
      have hw6 := hw5.le (del2_mono (x := b8) (y := b11) l6)
      have hu6 := hu5.le (del2_mono (x := b8) (y := b11) l6)
      have hle6 := hle5.trans l6
      have evk : ∀ x, bitsN v x = k → ta.ev x = ta.ev (cfg (k : Nat)) := fun x hx => by rw [ev_bits ka.2, hx]
      refine ⟨_, rfl, fun hh => ?_, fun hh => ?_⟩
      · refine ⟨u4, hu6.size, row_whole h116, w4, hw6.size, row_whole h86, ?_⟩
        have kor := k1.ap2 (o := oOr) kc
        have del12 : (del2 F6 b8 b11).le (del1 F6 b8) := fun z ob hz => by
          have h1 : z ≠ b8 := fun e => by rw [e, del2_1] at hz; cases hz
          have h2 : z ≠ b11 := fun e => by rw [e, del2_2] at hz; cases hz
          rw [del2_of h1 h2] at hz
          rw [del1_of h1]
          exact hz
        have hsp := or_spec (hu6.le del12) (hw6.le del12)
        rw [bin_ap (k1.small hn) (kc.small hn), lim_small (kor.small hn)] at hsp
        refine (callDR hsp h86).mono ?_
        rintro _ F7 ⟨y2, rfl, ⟨G7, hy2, lG7, g87⟩, l7, h87⟩
        refine ⟨_, _, rfl, ?_⟩
        refine stW h87 hy2.size hw6.size hy2.st ?_
        have hcv7 : CV F0 (F7.set b8 (.cells y2 28)) b8 (ap2 oOr t1 tc) := ⟨le_set_new (hle6.trans l7) hnb, hnb, y2, set_eq _ _ _, hy2.le fun z ob hz => by
          have h1 : z ≠ b8 := fun e => by rw [e, g87] at hz; cases hz
          rw [del1_of h1, set_ne _ _ h1]
          exact lG7 _ _ hz⟩
        refine can_j4 ka kb hn h6 h7 hcv7 hk' fun F' hcv' => next _ F' kor hcv' fun x => ?_
        rw [(ap2_facts k1.1 kc.1).2, hone, htc]
        by_cases hx : bitsN v x = k
        · have h1 : bitsN v x < k + 1 := by omega
          have h2 := evk x hx
          rw [hh] at h2
          simp [hx, h2]
        · have h1 : (bitsN v x < k + 1) = (bitsN v x < k) := by apply propext; omega
          simp [hx, h1]
      · have hcv6 : CV F0 F6 b8 tc := ⟨hle6, hnb, w4, h86, hw6.le fun z ob hz => by
          have h1 : z ≠ b8 := fun e => by rw [e, del2_1] at hz; cases hz
          have h2 : z ≠ b11 := fun e => by rw [e, del2_2] at hz; cases hz
          rw [del2_of h1 h2] at hz
          rw [del1_of h1]
          exact hz⟩
        refine can_j4 ka kb hn h6 h7 hcv6 hk' fun F' hcv' => next _ F' kc hcv' fun x => ?_
        rw [htc]
        by_cases hx : bitsN v x = k
        · have h2 := evk x hx
          rw [hh] at h2
          simp [h2]
        · have h1 : (bitsN v x < k + 1) = (bitsN v x < k) := by apply propext; omega
          simp [h1]
  · obtain rfl : k = 2 ^ n := by omega
    exact can_end ka kb hn h6 h7 kc hcv2 htc heq hR
end
theorem canonical_spec {F : PH} {s0 t0 : Array Value} {n n' : Int} (hs : SetV F s0 n) (ht : SetV F t0 n') : Spec prog 3 #[.agg s0, .agg t0] F fun r F' => r = .bool true ∧ F.le F' := by
  have hs' := hs
  obtain ⟨⟨sl, zs, rfl, hr⟩, n0, n255⟩ := hs
  obtain ⟨⟨tl, ts, rfl, htr⟩, _, _⟩ := ht
  refine c3 ?_
  unfold b3
  intro b2 hb2
  refine atI ?_
  have l2 := le_set_fresh (.cells #[sl.v, .int .u8 n] 24) hb2
  have q2 := set_eq F b2 (.cells #[sl.v, .int .u8 n] 24)
  generalize F.set b2 (.cells #[sl.v, .int .u8 n] 24) = F2 at *
  intro b3 hb3
  refine atI ?_
  have f3 : F b3 = none := le_none l2 hb3
  have n23 : b2 ≠ b3 := ne_of_fresh hb3 q2
  have lx := le_set_fresh (.cells #[tl.v, .int .u8 n'] 24) hb3
  have q3 := set_eq F2 b3 (.cells #[tl.v, .int .u8 n'] 24)
  replace q2 := lx _ _ q2
  replace l2 := l2.trans lx
  generalize F2.set b3 (.cells #[tl.v, .int .u8 n'] 24) = F3 at *
  refine (sanity_spec F3).mono ?_
  rintro _ F4 ⟨rfl, la⟩
  replace q2 := la _ _ q2
  replace q3 := la _ _ q3
  replace l2 := l2.trans la
  refine ⟨_, rfl, n, by rw [cell_eq q2]; rfl, ?_⟩
  refine st1 q3 (by simp) ?_
  rw [show (#[tl.v, Value.int .u8 n'].setIfInBounds 1 (.int .u8 n) : Array Value) = #[tl.v, .int .u8 n] from rfl]
  have l5 : F.le (F4.set b3 (.cells #[tl.v, .int .u8 n] 24)) := le_set_new l2 f3
  have q25 : (F4.set b3 (.cells #[tl.v, .int .u8 n] 24)) b2 = some (.cells #[sl.v, .int .u8 n] 24) := (set_ne _ _ n23).trans q2
  have q35 := set_eq F4 b3 (.cells #[tl.v, .int .u8 n] 24)
  generalize F4.set b3 (.cells #[tl.v, .int .u8 n] 24) = F5 at *
  have ht5 : SetV F5 #[tl.v, .int .u8 n] n := ⟨⟨tl, ts, rfl, htr.le l5⟩, n0, n255⟩
  refine ⟨_, rfl, row_whole q25, ?_⟩
  refine (made_spec (hs'.le l5)).mono ?_
  rintro _ F6 ⟨w, ta, rfl, ka, hw, lb⟩
  refine ⟨_, rfl, ?_⟩
  refine locD hw rfl (Los.nil _) fun b6 F7 lc h7 hc => ?_
  have l57 := lb.trans lc
  clear hc hw lb lc
  refine ⟨_, rfl, row_whole (l57 _ _ q35), ?_⟩
  refine (made_spec (ht5.le l57)).mono ?_
  rintro _ F8 ⟨w, tb, rfl, kb, hw, lb⟩
  refine ⟨_, rfl, ?_⟩
  refine locD hw rfl (h7.le lb) fun b7 F9 lc h9 hc => ?_
  have l59 := l57.trans (lb.trans lc)
  clear hc hw lb lc
  refine (constant_spec (F := F9) false).mono ?_
  rintro _ F10 ⟨w, rfl, hw, lb⟩
  refine ⟨_, rfl, ?_⟩
  intro b8 hb8
  refine atI ?_
  refine stW (set_eq _ _ _) hw.size rfl hw.st ?_
  rw [set_twice]
  have l510 := l59.trans lb
  have h10 := h9.le lb
  have lF := l5.trans l510
  have hcv : CV F10 (F10.set b8 (.cells w 28)) b8 (leaf false) := ⟨le_set_fresh _ hb8, hb8, w, set_eq _ _ _, hw.le fun z ob hz => by
    have h1 : z ≠ b8 := ne_of_fresh hb8 hz
    rw [del1_of h1, set_ne _ _ h1]
    exact hz⟩
  exact canonical_loop (n := nOf n) ka kb (nOf_le n) (h10 (b6, dia ta) (by simp)) (h10 (b7, dia tb) (by simp)) (l510 _ _ q25) (hs'.le lF) rfl hcv fun F' hl => ⟨rfl, lF.trans hl⟩
end Go.Proofs.Ytafojmoeaneedaa
