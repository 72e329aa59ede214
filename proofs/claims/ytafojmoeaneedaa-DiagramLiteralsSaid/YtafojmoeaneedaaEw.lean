/-
  DiagramLiterals: the law.
-/
import Derived.Test.YtafojmoeaneedaaEv
namespace Go.Proofs.Ytafojmoeaneedaa
open Go Go.Proofs.Try Tr
set_option maxRecDepth 10000

abbrev u8l (l : List Int) : List Value := l.map (Value.int .u8)
theorem RdS.u8 {F : PH} {s : Sl} {l : List Int} (h : RdS F s 1 (u8l l)) {i : Nat} (hi : i < l.length) : ∃ a, s.base = some a ∧ F.cell (a.add (Int.toNat (i : Int) * 1)) = some (.int .u8 l[i]) := by
  have hl := h.len
  simp at hl
  obtain ⟨b, o, h1, h2⟩ := h.cells (by omega)
  refine ⟨_, h1, ?_⟩
  have := h2 i (by simpa using hi)
  simpa using this

section
variable {c : Int} {b6 : Nat}
theorem lit_j3 {F0 F G : PH} {sl : Sl} {o z n14 v : Nat} {x : Bool} {k : Int} {xi : Int} {w w0 : Array Value} {N : Bool → Bool → Int → Int → Int → PH → Prop} {R : Value → PH → Prop}
    (h0 : 0 ≤ c) (h1 : c < 18446744073709551616) (hv : v < 64) (hvx : IntKind.i64.wrap (Int.tmod xi 64) = (v : Int)) (hx : decide (128 ≤ xi) = x) (ho : o < 18446744073709551616) (hz : z < 18446744073709551616)
    (hle : F0.le F) (hn6 : F0 b6 = none) (h6 : F b6 = some (.cells w0 28)) (hw0 : w0.size = 2) (h14 : F n14 = some (.cells w 28)) (hG : DV G w (dia (conj (if x then o ||| 2 ^ v else o) (if x then z else z ||| 2 ^ v)))) (lG : G.le F) (gG : G b6 = none)
    (hN : ∀ F', LS8 F0 F' b6 (if x then o ||| 2 ^ v else o) (if x then z else z ||| 2 ^ v) →
      N (semB (if x then o ||| 2 ^ v else o) (if x then z else z ||| 2 ^ v) (cfg c)) (decide ((if x then o ||| 2 ^ v else o) &&& (if x then z else z ||| 2 ^ v) ≠ 0)) ((if x then o ||| 2 ^ v else o : Nat) : Int) ((if x then z else z ||| 2 ^ v : Nat) : Int) (IntKind.i64.wrap (k + 1)) F') :
    b8j3 N sl c true b6 (semB o z (cfg c)) (decide (o &&& z ≠ 0)) o z k xi xi (some ⟨n14, 0, none⟩) 0 R F := by
  unfold b8j3
  refine ⟨fun h => absurd rfl h, fun _ => ?_⟩
  refine ⟨_, rfl, w, hG.size, row_whole h14, ?_⟩
  refine stW h6 hG.size hw0 hG.st ?_
  have hs : LS8 F0 (F.set b6 (.cells w 28)) b6 (if x then o ||| 2 ^ v else o) (if x then z else z ||| 2 ^ v) := by
    have hp : 2 ^ v < 2 ^ 64 := Nat.pow_lt_pow_right (by decide) hv
    have or1 : o ||| 2 ^ v < 2 ^ 64 := Nat.or_lt_two_pow (by omega) hp
    have or2 : z ||| 2 ^ v < 2 ^ 64 := Nat.or_lt_two_pow (by omega) hp
    refine ⟨le_set_new hle hn6, hn6, by split <;> omega, by split <;> omega, w, set_eq _ _ _, hG.le fun y ob hy => ?_⟩
    have hne : y ≠ b6 := fun e => by rw [e, gG] at hy; cases hy
    rw [del1_of hne, set_ne _ _ hne]
    exact lG _ _ hy
  replace hN := hN _ hs
  have hwu : IntKind.u64.wrap (IntKind.i64.wrap (Int.tmod xi 64)) = (v : Int) := by rw [hvx, wu64_eq (by omega) (by omega)]
  have hsem : semB (if x then o ||| 2 ^ v else o) (if x then z else z ||| 2 ^ v) (cfg c) = (if semB o z (cfg c) = true then ((cfg c v) == x) else false) := by
    cases x
    · simp only [Bool.false_eq_true, if_false, semB_zero hv]
      cases semB o z (cfg c) <;> cases cfg c v <;> rfl
    · simp only [if_true, semB_one hv]
      cases semB o z (cfg c) <;> cases cfg c v <;> rfl
  -- the end of the round
  have j5 : ∀ ag : Bool, ag = semB (if x then o ||| 2 ^ v else o) (if x then z else z ||| 2 ^ v) (cfg c) → b8j4 N sl c true b6 (decide (o &&& z ≠ 0)) o z k xi xi ag R (F.set b6 (.cells w 28)) := by
    intro ag hag
    subst hag
    unfold b8j4
    rw [hwu, bit_or ho hv, bit_or hz hv]
    have hclash : ∀ o' z' : Nat, o' < 18446744073709551616 → z' < 18446744073709551616 → (o &&& z ≠ 0 → o' &&& z' ≠ 0) → N (semB (if x then o ||| 2 ^ v else o) (if x then z else z ||| 2 ^ v) (cfg c)) (decide (o' &&& z' ≠ 0)) o' z' (IntKind.i64.wrap (k + 1)) (F.set b6 (.cells w 28)) →
        b8j5 N sl c true b6 (semB (if x then o ||| 2 ^ v else o) (if x then z else z ||| 2 ^ v) (cfg c)) (decide (o &&& z ≠ 0)) k o' z' R (F.set b6 (.cells w 28)) := by
      intro o' z' ho' hz' hmono hn
      unfold b8j5
      refine ⟨fun hc => ?_, fun hc => ?_⟩
      · unfold b8j2
        rw [decide_eq_true (hmono (of_decide_eq_true hc))] at hn
        exact hn
      · unfold b8j2
        rw [bit_and ho' hz']
        have e : decide (((o' &&& z' : Nat) : Int) ≠ 0) = decide (o' &&& z' ≠ 0) := by
          rw [decide_eq_decide]
          constructor <;> intro h <;> omega
        rw [e]
        exact hn
    have hp : 2 ^ v < 2 ^ 64 := Nat.pow_lt_pow_right (by decide) hv
    have or1 : o ||| 2 ^ v < 2 ^ 64 := Nat.or_lt_two_pow (by omega) hp
    have or2 : z ||| 2 ^ v < 2 ^ 64 := Nat.or_lt_two_pow (by omega) hp
    have mono : ∀ p q r s : Nat, (∀ i, p.testBit i = true → r.testBit i = true) → (∀ i, q.testBit i = true → s.testBit i = true) → p &&& q ≠ 0 → r &&& s ≠ 0 := by
      intro p q r s hpr hqs h e
      obtain ⟨i, hi⟩ := Nat.exists_testBit_of_ne_zero h
      rw [Nat.testBit_and, Bool.and_eq_true] at hi
      have : (r &&& s).testBit i = true := by rw [Nat.testBit_and, hpr i hi.1, hqs i hi.2]; rfl
      rw [e] at this
      simp at this
    refine ⟨fun h128 => ⟨by omega, ?_⟩, fun h128 => ⟨by omega, ?_⟩⟩
    · have hx1 : x = true := by rw [← hx]; exact decide_eq_true h128
      subst hx1
      simp only [if_true] at hN hclash ⊢
      exact hclash _ _ (by omega) hz (mono _ _ _ _ (fun i hi => by rw [Nat.testBit_or, hi]; rfl) (fun i hi => hi)) hN
    · have hx0 : x = false := by rw [← hx]; exact decide_eq_false h128
      subst hx0
      simp only [Bool.false_eq_true, if_false] at hN hclash ⊢
      exact hclash _ _ ho (by omega) (mono _ _ _ _ (fun i hi => hi) (fun i hi => by rw [Nat.testBit_or, hi]; rfl)) hN
  refine ⟨fun hag => ⟨by rw [hwu]; omega, ?_⟩, fun hag => j5 false ?_⟩
  · rw [hwu, bit_test2 h0 h1 hv, hx]
    exact j5 _ (by rw [hsem, if_pos hag])
  · rw [hsem, if_neg (by simp [hag])]

theorem lits_spec {F : PH} {sl : Sl} {l : List Int} (hr : RdS F sl 1 (u8l l)) (hb : ∀ x ∈ l, 0 ≤ x ∧ x ≤ 255) (h0 : 0 ≤ c) (h1 : c < 18446744073709551616) : Spec prog 8 #[sl.v, .int .u64 c] F fun r F' => r = .bool true ∧ F.le F' := by
  have hlen : sl.len = l.length := by have := hr.len; simp at this; omega
  refine c8 ?_
  unfold b8
  refine (sanity_spec F).mono ?_
  rintro _ F1 ⟨rfl, l1⟩
  refine ⟨_, rfl, ?_⟩
  refine (constant_spec (F := F1) true).mono ?_
  rintro _ F2 ⟨w, rfl, hw, l2⟩
  replace l2 := l1.trans l2
  refine ⟨_, rfl, ?_⟩
  intro b6 hb6
  refine atI ?_
  refine stW (set_eq _ _ _) hw.size rfl hw.st ?_
  rw [set_twice]
  have f6 : F b6 = none := le_none l2 hb6
  have hc0 : conj 0 0 = leaf true := by
    have hch : ∀ n, ch 0 0 n = leaf true := fun n => by
      induction n with
      | zero => rfl
      | succ n ih => rw [ch_succ, ih]; simp
    unfold conj
    rw [if_neg (by simp), hch]
  have hs0 : LS8 F (F2.set b6 (.cells w 28)) b6 0 0 := by
    refine ⟨le_set_new l2 f6, f6, by omega, by omega, w, set_eq _ _ _, ?_⟩
    rw [hc0]
    refine hw.le fun y ob hy => ?_
    have hne : y ≠ b6 := ne_of_fresh hb6 hy
    rw [del1_of hne, set_ne _ _ hne]
    exact hy
  have hsem0 : semB 0 0 (cfg c) = true := by rw [semB_iff]; simp
  refine ⟨fun m ag cl on ze i F' => ∃ k o z : Nat, i = k ∧ k ≤ l.length ∧ m = l.length - k ∧ on = o ∧ ze = z ∧ ag = semB o z (cfg c) ∧ cl = decide (o &&& z ≠ 0) ∧ LS8 F F' b6 o z, l.length, ⟨0, 0, 0, rfl, by omega, rfl, rfl, rfl, hsem0.symm, rfl, hs0⟩, ?_⟩
  rintro m ag cl on ze i F3 ⟨k, o, z, rfl, hk, rfl, rfl, rfl, rfl, rfl, hs⟩
  unfold b8L1
  refine ⟨fun hlt => ⟨fun h12 => ?_, fun _ => lit_end hs h0 h1 fun _ h => ⟨rfl, h⟩⟩, fun _ => lit_end hs h0 h1 fun _ h => ⟨rfl, h⟩⟩
  have hkl : k < l.length := by omega
  obtain ⟨hle, hn6, ho, hz, u, h6, hu⟩ := hs
  obtain ⟨a, ha, hcell⟩ := (hr.le hle).u8 hkl
  obtain ⟨x0, x1⟩ := hb _ (List.getElem_mem hkl)
  generalize hxi : l[k] = xi at *
  have hv : (xi % 64).toNat < 64 := by omega
  have hvx : IntKind.i64.wrap (Int.tmod xi 64) = (((xi % 64).toNat : Nat) : Int) := by
    rw [Int.tmod_eq_emod_of_nonneg x0, w64_eq (by omega) (by omega)]
    omega
  generalize (xi % 64).toNat = v at *
  generalize hx : decide (128 ≤ xi) = x
  have hand : bin oAnd (dia (litT v x)) (dia (conj o z)) = (dia (conj (if x then o ||| 2 ^ v else o) (if x then z else z ||| 2 ^ v)), 0) := by
    refine bin_eq (litT_small hv x) (conj_small o z) (conj_small _ _) fun cc => ?_
    have ho' : o < 2 ^ 64 := by omega
    have hp : 2 ^ v < 2 ^ 64 := Nat.pow_lt_pow_right (by decide) hv
    rw [litT_ev]
    cases x
    · simp only [Bool.false_eq_true, if_false]
      rw [conj_ev ho', conj_ev ho', semB_zero hv]
    · simp only [if_true]
      rw [conj_ev (Nat.or_lt_two_pow ho' hp), semB_one hv, conj_ev ho']
  have hw1 : IntKind.i64.wrap ((k : Int) + 1) = ((k + 1 : Nat) : Int) := w64s (by
    have := hr.cap
    omega)
  have hN : ∀ F', LS8 F F' b6 (if x then o ||| 2 ^ v else o) (if x then z else z ||| 2 ^ v) →
      ∃ m', m' < l.length - k ∧ ∃ k' o' z' : Nat, IntKind.i64.wrap ((k : Int) + 1) = k' ∧ k' ≤ l.length ∧ m' = l.length - k' ∧ ((if x then o ||| 2 ^ v else o : Nat) : Int) = o' ∧ ((if x then z else z ||| 2 ^ v : Nat) : Int) = z' ∧ semB (if x then o ||| 2 ^ v else o) (if x then z else z ||| 2 ^ v) (cfg c) = semB o' z' (cfg c) ∧
        decide ((if x then o ||| 2 ^ v else o) &&& (if x then z else z ||| 2 ^ v) ≠ 0) = decide (o' &&& z' ≠ 0) ∧ LS8 F F' b6 o' z' := fun F' h =>
    ⟨l.length - (k + 1), by omega, k + 1, _, _, hw1, by omega, rfl, rfl, rfl, rfl, rfl, h⟩
  refine ⟨a, ha, by omega, hlt, xi, hcell, a, ha, by omega, hlt, xi, hcell, u, hu.size, row_whole h6, ⟨?_, ?_⟩⟩
  · -- the literal first
    rw [hvx, hx]
    refine (callD (literal_spec (F := del1 F3 b6) hv x) h6).mono ?_
    rintro _ F4 ⟨y, rfl, ⟨G, hy, lG, gG⟩, l4, q6⟩
    refine ⟨_, rfl, row_whole q6, ⟨?_, ?_⟩⟩
    · have hs1 := and_spec (hy.beside lG gG) (hu.le (del1_mono l4))
      rw [hand] at hs1
      refine (callDR hs1 q6).mono ?_
      rintro _ F5 ⟨y2, rfl, ⟨G2, hy2, lG2, gG2⟩, l5, q65⟩
      refine ⟨_, _, rfl, ?_⟩
      intro b14 hb14
      refine atI ?_
      refine stW (set_eq _ _ _) hy2.size rfl hy2.st ?_
      rw [set_twice]
      have n14 : b6 ≠ b14 := ne_of_fresh hb14 q65
      have lx := le_set_fresh (.cells y2 28) hb14
      exact lit_j3 h0 h1 hv hvx hx ho hz (hle.trans (l4.trans (l5.trans lx))) hn6 (lx _ _ q65) hu.size (set_eq _ _ _) hy2 (lG2.trans lx) gG2 hN
    · intro b14 hb14
      refine atI ?_
      have n14 : b6 ≠ b14 := ne_of_fresh hb14 q6
      have lx := le_set_fresh (.cells #[Value.slice none 0 0, Value.int .i64 0] 28) hb14
      have q14 := set_eq F4 b14 (.cells #[Value.slice none 0 0, Value.int .i64 0] 28)
      have q6' := lx _ _ q6
      have hu2 : DV (del2 (F4.set b14 (.cells #[Value.slice none 0 0, Value.int .i64 0] 28)) b6 b14) u (dia (conj o z)) := hu.le fun yy ob hyy => by
        have h1 : yy ≠ b6 := fun e => by rw [e, del1_1] at hyy; cases hyy
        rw [del1_of h1] at hyy
        have h2 : yy ≠ b14 := ne_of_fresh hb14 (l4 _ _ hyy)
        rw [del2_of h1 h2]
        exact lx _ _ (l4 _ _ hyy)
      have hs1 := and_spec (hy.beside2 (lG.trans lx) gG (le_none lG hb14)) hu2
      rw [hand] at hs1
      refine (callDR2 hs1 q6' q14).mono ?_
      rintro _ F5 ⟨y2, rfl, ⟨G2, hy2, lG2, gG2, gG3⟩, l5, q65, q145⟩
      refine ⟨_, _, rfl, ?_⟩
      refine stW q145 hy2.size rfl hy2.st ?_
      have fb14 : F b14 = none := le_none (hle.trans l4) hb14
      exact lit_j3 h0 h1 hv hvx hx ho hz (le_set_new (hle.trans (l4.trans (lx.trans l5))) fb14) hn6 (by rw [set_ne _ _ n14]; exact q65) hu.size (set_eq _ _ _) hy2 (le_set_new lG2 gG3) gG2 hN
  · intro b14 hb14
    refine atI ?_
    have n14 : b6 ≠ b14 := ne_of_fresh hb14 h6
    have lx := le_set_fresh (.cells #[Value.slice none 0 0, Value.int .i64 0] 28) hb14
    have q14 := set_eq F3 b14 (.cells #[Value.slice none 0 0, Value.int .i64 0] 28)
    have q6' := lx _ _ h6
    have fb14 : F b14 = none := le_none hle hb14
    have hu2 : DV (del2 (F3.set b14 (.cells #[Value.slice none 0 0, Value.int .i64 0] 28)) b6 b14) u (dia (conj o z)) := hu.le fun yy ob hyy => by
      have h1 : yy ≠ b6 := fun e => by rw [e, del1_1] at hyy; cases hyy
      rw [del1_of h1] at hyy
      have h2 : yy ≠ b14 := ne_of_fresh hb14 hyy
      rw [del2_of h1 h2]
      exact lx _ _ hyy
    generalize F3.set b14 (.cells #[Value.slice none 0 0, Value.int .i64 0] 28) = F4 at *
    rw [hvx, hx]
    refine ((literal_spec (F := del2 F4 b6 b14) hv x).upon (del2_le _ _ _)).mono ?_
    rintro _ F5 ⟨G, ⟨y, rfl, hy, lg⟩, lG, hk'⟩
    obtain ⟨k6, g6⟩ := hk' b6 _ (del2_1 _ _ _) q6'
    obtain ⟨k14, g14⟩ := hk' b14 _ (del2_2 _ _ _) q14
    have l5 : F4.le F5 := fun yy ob hyy => by
      by_cases h1 : yy = b6
      · subst h1; rw [q6'] at hyy; rw [k6]; exact hyy
      · by_cases h2 : yy = b14
        · subst h2; rw [q14] at hyy; rw [k14]; exact hyy
        · exact lG _ _ (lg _ _ (by rw [del2_of h1 h2]; exact hyy))
    refine ⟨_, rfl, row_whole k6, ?_⟩
    have hu3 : DV (del2 F5 b6 b14) u (dia (conj o z)) := hu2.le fun yy ob hyy => by
      have h1 : yy ≠ b6 := fun e => by rw [e, del2_1] at hyy; cases hyy
      have h2 : yy ≠ b14 := fun e => by rw [e, del2_2] at hyy; cases hyy
      rw [del2_of h1 h2] at hyy ⊢
      exact l5 _ _ hyy
    have hs1 := and_spec (hy.beside2 lG g6 g14) hu3
    rw [hand] at hs1
    refine (callDR2 hs1 k6 k14).mono ?_
    rintro _ F6 ⟨y2, rfl, ⟨G2, hy2, lG2, gG2, gG3⟩, l6, q65, q145⟩
    refine ⟨_, _, rfl, ?_⟩
    refine stW q145 hy2.size rfl hy2.st ?_
    exact lit_j3 h0 h1 hv hvx hx ho hz (le_set_new (hle.trans (lx.trans (l5.trans l6))) fb14) hn6 (by rw [set_ne _ _ n14]; exact q65) hu.size (set_eq _ _ _) hy2 (le_set_new lG2 gG3) gG2 hN
end
end Go.Proofs.Ytafojmoeaneedaa
