/-
  DiagramLiterals: the walk.
-/
import Derived.Test.YtafojmoeaneedaaEu
import Derived.Test.YtafojmoeaneedaaGL8
namespace Go.Proofs.Ytafojmoeaneedaa
open Go Go.Proofs.Try Tr
set_option maxRecDepth 10000

theorem callDR2 {f : FuncId} {args : Array Value} {F : PH} {x x' : Nat} {o o' : Obj} {y : DR} (h : Spec prog f args (del2 F x x') fun r F' => DRV F' r y ∧ (del2 F x x').le F') (hx : F x = some o) (hx' : F x' = some o') :
    Spec prog f args F fun r F' => ∃ w, r = .tuple #[.agg w, vi y.2] ∧ (∃ G, DV G w y.1 ∧ G.le F' ∧ G x = none ∧ G x' = none) ∧ F.le F' ∧ F' x = some o ∧ F' x' = some o' :=
  (h.upon (del2_le F x x')).mono fun r F' ⟨G, ⟨⟨w, hr, hw⟩, lg⟩, lG, hk⟩ => by
    obtain ⟨k1, g1⟩ := hk x _ (del2_1 _ _ _) hx
    obtain ⟨k2, g2⟩ := hk x' _ (del2_2 _ _ _) hx'
    refine ⟨w, hr, ⟨G, hw, lG, g1, g2⟩, fun z ob hz => ?_, k1, k2⟩
    by_cases h1 : z = x
    · subst h1; rw [hx] at hz; rw [k1]; exact hz
    · by_cases h2 : z = x'
      · subst h2; rw [hx'] at hz; rw [k2]; exact hz
      · exact lG _ _ (lg _ _ (by rw [del2_of h1 h2]; exact hz))
theorem DV.beside2 {F G : PH} {x y : Nat} {w : Array Value} {d : Dia} (h : DV G w d) (hl : G.le F) (hx : G x = Option.none) (hy : G y = Option.none) : DV (del2 F x y) w d :=
  h.le fun z ob hz => by
    rw [del2_of (fun e => by rw [e, hx] at hz; cases hz) (fun e => by rw [e, hy] at hz; cases hz)]
    exact hl _ _ hz

theorem bit_and {x y : Nat} (hx : x < 18446744073709551616) (hy : y < 18446744073709551616) :
    (IntKind.u64.wrap ((BitVec.ofInt (IntKind.u64).bits (x : Int) &&& BitVec.ofInt (IntKind.u64).bits (y : Int)).toNat)) = ((x &&& y : Nat) : Int) := by
  have : x &&& y ≤ x := Nat.and_le_left
  rw [BitVec.toNat_and, ofInt_nat _ hx, ofInt_nat _ hy, wu64_eq (by omega) (by omega)]
theorem bit_test2 {c : Int} (h0 : 0 ≤ c) (h1 : c < 18446744073709551616) {v : Nat} (hv : v < 64) :
    decide ((Int.tmod (Int.fdiv c (2 ^ (min (Int.toNat (v : Int)) (IntKind.u64).bits))) (2 : Int)) = (1 : Int)) = cfg c v := by
  obtain ⟨n, rfl⟩ := Int.eq_ofNat_of_zero_le h0
  have hm : min (Int.toNat (v : Int)) (IntKind.u64).bits = v := by simp only [IntKind.bits, Int.toNat_natCast]; omega
  rw [hm, fdiv_pow]
  unfold cfg
  rw [Int.toNat_natCast, Nat.testBit_eq_decide_div_mod_eq]
  have e : Int.tmod ((n / 2 ^ v : Nat) : Int) 2 = ((n / 2 ^ v % 2 : Nat) : Int) := by
    rw [Int.tmod_eq_emod_of_nonneg (Int.natCast_nonneg _)]
    rfl
  rw [e]
  have : (((n / 2 ^ v % 2 : Nat) : Int) = 1) = (n / 2 ^ v % 2 = 1) := by
    apply propext
    constructor <;> intro h <;> omega
  rw [decide_eq_decide]
  exact this ▸ Iff.rfl

section
variable {c : Int} {b6 : Nat}
/-- The variable d, and what the loop knows. -/
structure LS8 (F0 F : PH) (b6 : Nat) (o z : Nat) : Prop where
  le : F0.le F
  n6 : F0 b6 = none
  ho : o < 18446744073709551616
  hz : z < 18446744073709551616
  ex : ∃ w, F b6 = some (.cells w 28) ∧ DV (del1 F b6) w (dia (conj o z))

theorem lit_end {F0 F : PH} {o z : Nat} (hs : LS8 F0 F b6 o z) (h0 : 0 ≤ c) (h1 : c < 18446744073709551616) {R : Value → PH → Prop} (hR : ∀ F', F0.le F' → R (.bool true) F') :
    b8j1 c true b6 (semB o z (cfg c)) (decide (o &&& z ≠ 0)) o z R F := by
  obtain ⟨hle, hn6, ho, hz, w, h6, hw⟩ := hs
  have hwF := hw.le (del1_le _ _)
  have sm := conj_small o z
  unfold b8j1
  refine ⟨w, hw.size, row_whole h6, ?_⟩
  refine (least_spec hwF).mono ?_
  rintro _ F1 ⟨rfl, l1⟩
  rw [least_eq sm]
  by_cases hc : o &&& z ≠ 0
  · have e : conj o z = leaf false := by unfold conj; rw [if_pos hc]
    rw [if_pos e, decide_eq_true hc]
    refine ⟨_, _, rfl, fun _ => ⟨fun _ => ?_, fun h => by cases h⟩, fun h => by cases h⟩
    refine ⟨w, hw.size, row_whole (l1 _ _ h6), ?_⟩
    refine (constant_spec (F := F1) false).mono ?_
    rintro _ F2 ⟨u, rfl, hu, l2⟩
    refine ⟨_, rfl, row_whole (l2 _ _ (l1 _ _ h6)), ?_⟩
    refine (same_spec (hwF.le (l1.trans l2)) hu (dia_fit sm)).mono ?_
    rintro _ F3 ⟨rfl, l3⟩
    rw [e]
    refine ⟨_, rfl, fun _ => hR _ (hle.trans (l1.trans (l2.trans l3))), fun h => by simp at h⟩
  · obtain ⟨hl, hne⟩ := conj_least (by omega : o < 2 ^ 64) hc
    rw [if_neg hne, decide_eq_false hc, hl]
    refine ⟨_, _, rfl, fun h => (by cases h), fun _ => ⟨fun _ => ⟨fun _ => ?_, fun h => absurd rfl h⟩, fun h => by cases h⟩⟩
    refine ⟨w, hw.size, row_whole (l1 _ _ h6), ?_⟩
    refine (holds_spec (hwF.le l1) h0 h1).mono ?_
    rintro _ F2 ⟨rfl, l2⟩
    rw [holds_eq sm, conj_ev (by omega)]
    refine ⟨_, rfl, fun _ => ?_, fun h => by simp at h⟩
    refine ⟨w, hw.size, row_whole (l2 _ _ (l1 _ _ h6)), ?_⟩
    obtain ⟨n, rfl⟩ := Int.eq_ofNat_of_zero_le h0
    have hn : n < 18446744073709551616 := by omega
    -- the configuration with the ones, without the zeros
    have key : ∃ m : Nat, m < 18446744073709551616 ∧ (IntKind.u64.wrap ((BitVec.ofInt (IntKind.u64).bits (IntKind.u64.wrap ((BitVec.ofInt (IntKind.u64).bits (n : Int) &&& ~~~ BitVec.ofInt (IntKind.u64).bits (z : Int)).toNat)) ||| BitVec.ofInt (IntKind.u64).bits (o : Int)).toNat)) = (m : Int) ∧
        semB o z (cfg m) = true := by
      have hlt := (BitVec.ofInt (IntKind.u64).bits (n : Int) &&& ~~~ BitVec.ofInt (IntKind.u64).bits (z : Int)).isLt
      have hlt' : (BitVec.ofInt (IntKind.u64).bits (n : Int) &&& ~~~ BitVec.ofInt (IntKind.u64).bits (z : Int)).toNat < 18446744073709551616 := hlt
      have hbit : ∀ v, v < 64 → (BitVec.ofInt (IntKind.u64).bits (n : Int) &&& ~~~ BitVec.ofInt (IntKind.u64).bits (z : Int)).toNat.testBit v = (n.testBit v && !z.testBit v) := fun v hv => by
        rw [BitVec.testBit_toNat, BitVec.getLsbD_and, BitVec.getLsbD_not, ← BitVec.testBit_toNat, ← BitVec.testBit_toNat, ofInt_nat _ hn, ofInt_nat _ hz]
        have : decide (v < (IntKind.u64).bits) = true := decide_eq_true hv
        rw [this]
        simp
      generalize (BitVec.ofInt (IntKind.u64).bits (n : Int) &&& ~~~ BitVec.ofInt (IntKind.u64).bits (z : Int)).toNat = q at *
      have hor : q ||| o < 2 ^ 64 := Nat.or_lt_two_pow (by omega) (by omega)
      refine ⟨q ||| o, by omega, ?_, ?_⟩
      · rw [wu64_eq (x := (q : Int)) (by omega) (by omega), BitVec.toNat_or, ofInt_nat _ hlt', ofInt_nat _ ho, wu64_eq (by omega) (by omega)]
      · rw [semB_iff]
        intro v hv
        have hcz := and_zero hc v
        unfold cfg
        simp only [Int.toNat_natCast, Nat.testBit_or, hbit v hv, Bool.or_eq_true, Bool.and_eq_true, Bool.or_eq_false_iff]
        refine ⟨fun h => .inr h, fun h => ⟨by simp [h], ?_⟩⟩
        cases hov : o.testBit v with
        | false => rfl
        | true => exact absurd ⟨hov, h⟩ hcz
    obtain ⟨m, hm, he, hsem⟩ := key
    rw [he]
    refine (holds_spec (hwF.le (l1.trans l2)) (c := (m : Int)) (by omega) (by omega)).mono ?_
    rintro _ F3 ⟨rfl, l3⟩
    rw [holds_eq sm, conj_ev (by omega), hsem]
    exact ⟨_, rfl, fun _ => hR _ (hle.trans (l1.trans (l2.trans l3))), fun h => by cases h⟩
end
end Go.Proofs.Ytafojmoeaneedaa
