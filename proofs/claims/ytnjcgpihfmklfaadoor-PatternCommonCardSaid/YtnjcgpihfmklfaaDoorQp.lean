/-
  Numbers of 64 bits as sets.
-/
import Derived.Test.YtnjcgpihfmklfaaDoorPhd
namespace Go.Proofs.YtnjcgpihfmklfaaDoor
open Go
set_option maxRecDepth 10000

def bt (f : Nat → Bool) : Nat → Nat
  | 0 => 0
  | n + 1 => 2 ^ n * (if f n then 1 else 0) + bt f n
theorem bt_lt (f : Nat → Bool) : ∀ n, bt f n < 2 ^ n
  | 0 => by simp [bt]
  | n + 1 => by
    have := bt_lt f n
    unfold bt
    rw [Nat.pow_succ]
    split <;> omega
theorem bt_bit (f : Nat → Bool) : ∀ n j, (bt f n).testBit j = (decide (j < n) && f j)
  | 0, j => by simp [bt]
  | n + 1, j => by
    unfold bt
    rw [Nat.testBit_two_pow_mul_add _ (bt_lt f n)]
    split
    · rename_i h
      rw [bt_bit f n j]
      simp [h, show j < n + 1 by omega]
    · rename_i h
      by_cases hj : j = n
      · subst hj
        cases f j <;> simp
      · have : j - n ≠ 0 := by omega
        rw [show decide (j < n + 1) = false by simp; omega]
        split
        · have := Nat.testBit_two_pow (n := 0) (m := j - n)
          rw [Nat.pow_zero] at this
          rw [this]
          simp
          omega
        · simp
theorem bt_eq {x n : Nat} {f : Nat → Bool} (hx : x < 2 ^ n) (h : ∀ j, j < n → x.testBit j = f j) : x = bt f n :=
  Nat.eq_of_testBit_eq fun j => by
    rw [bt_bit]
    by_cases hj : j < n
    · rw [h j hj]
      simp [hj]
    · rw [Nat.testBit_lt_two_pow (Nat.lt_of_lt_of_le hx (Nat.pow_le_pow_right (by omega) (by omega)))]
      simp [hj]
theorem bt_congr {n : Nat} {f g : Nat → Bool} (h : ∀ j, j < n → f j = g j) : bt f n = bt g n :=
  bt_eq (bt_lt f n) fun j hj => by rw [bt_bit, h j hj]; simp [hj]

/-- Word k of a set of places. -/
def wd (P : Nat → Bool) (k : Nat) : Nat := bt (fun j => P (64 * k + j)) 64
theorem wd_lt (P : Nat → Bool) (k : Nat) : wd P k < 18446744073709551616 := bt_lt _ 64
theorem wd_bit (P : Nat → Bool) (k : Nat) {j : Nat} (hj : j < 64) : (wd P k).testBit j = P (64 * k + j) := by unfold wd; rw [bt_bit]; simp [hj]
theorem wd_zero (k : Nat) : wd (fun _ => false) k = 0 := (bt_eq (x := 0) (by decide) fun j _ => by simp).symm
theorem wd_or (P Q : Nat → Bool) (k : Nat) : wd (fun i => P i || Q i) k = wd P k ||| wd Q k :=
  (bt_eq (x := wd P k ||| wd Q k) (Nat.or_lt_two_pow (bt_lt _ 64) (bt_lt _ 64)) fun j hj => by rw [Nat.testBit_or, wd_bit P k hj, wd_bit Q k hj]).symm
theorem wd_and (P Q : Nat → Bool) (k : Nat) : wd (fun i => P i && Q i) k = wd P k &&& wd Q k :=
  (bt_eq (x := wd P k &&& wd Q k) (Nat.and_lt_two_pow _ (bt_lt _ 64)) fun j hj => by rw [Nat.testBit_and, wd_bit P k hj, wd_bit Q k hj]).symm
theorem wd_eq_zero {P : Nat → Bool} {k : Nat} : wd P k = 0 ↔ ∀ j, j < 64 → P (64 * k + j) = false := by
  constructor
  · intro h j hj
    have := wd_bit P k hj
    rw [h] at this
    simpa using this.symm
  · intro h
    exact (bt_eq (x := 0) (by decide) fun j hj => by rw [h j hj]; simp).symm

theorem wu64_eq {x : Int} (h1 : 0 ≤ x) (h2 : x < 18446744073709551616) : IntKind.u64.wrap x = x := by
  unfold IntKind.wrap
  simp only [IntKind.bits, IntKind.signed]
  simp only [Bool.false_and, Bool.false_eq_true, if_false]
  omega
theorem bv_of {a : Nat} (h : a < 18446744073709551616) : (BitVec.ofInt (IntKind.u64).bits (a : Int)).toNat = a := by
  rw [BitVec.toNat_ofInt]
  show ((a : Int) % ((2 ^ 64 : Nat) : Int)).toNat = a
  have : ((2 ^ 64 : Nat) : Int) = 18446744073709551616 := by decide
  rw [this]
  omega
theorem u64_or {a b : Nat} (ha : a < 18446744073709551616) (hb : b < 18446744073709551616) : IntKind.u64.wrap ((BitVec.ofInt (IntKind.u64).bits (a : Int) ||| BitVec.ofInt (IntKind.u64).bits (b : Int)).toNat) = ((a ||| b : Nat) : Int) := by
  rw [BitVec.toNat_or, bv_of ha, bv_of hb]
  have : a ||| b < 2 ^ 64 := Nat.or_lt_two_pow ha hb
  exact wu64_eq (by omega) (by omega)
theorem u64_and {a b : Nat} (ha : a < 18446744073709551616) (hb : b < 18446744073709551616) : IntKind.u64.wrap ((BitVec.ofInt (IntKind.u64).bits (a : Int) &&& BitVec.ofInt (IntKind.u64).bits (b : Int)).toNat) = ((a &&& b : Nat) : Int) := by
  rw [BitVec.toNat_and, bv_of ha, bv_of hb]
  have : a &&& b < 2 ^ 64 := Nat.and_lt_two_pow _ hb
  exact wu64_eq (by omega) (by omega)

/-- t is the lowest bit of x. -/
def Low (x t : Nat) : Prop := ∃ m, x = 2 ^ (t + 1) * m + 2 ^ t
theorem Low.of {x t : Nat} (h1 : x.testBit t = true) (h2 : ∀ j, j < t → x.testBit j = false) : Low x t := by
  refine ⟨x / 2 ^ (t + 1), Nat.eq_of_testBit_eq fun j => ?_⟩
  rw [Nat.testBit_two_pow_mul_add _ (Nat.pow_lt_pow_right (by omega) (by omega))]
  split
  · rename_i h
    rw [Nat.testBit_two_pow]
    by_cases hj : j = t
    · subst hj
      rw [h1]
      simp
    · rw [h2 j (by omega)]
      simp
      omega
  · rw [Nat.testBit_div_two_pow]
    congr 1
    omega
theorem Low.pos {x t : Nat} (h : Low x t) : 0 < x := by
  obtain ⟨m, rfl⟩ := h
  have := Nat.two_pow_pos t
  omega
theorem Low.clear {x t : Nat} (h : Low x t) (j : Nat) : (x &&& (x - 1)).testBit j = (x.testBit j && decide (j ≠ t)) := by
  obtain ⟨m, rfl⟩ := h
  have hp := Nat.two_pow_pos t
  have e : 2 ^ (t + 1) * m + 2 ^ t - 1 = 2 ^ (t + 1) * m + (2 ^ t - 1) := by omega
  have l1 : 2 ^ t < 2 ^ (t + 1) := Nat.pow_lt_pow_right (by omega) (by omega)
  rw [e, Nat.testBit_and, Nat.testBit_two_pow_mul_add _ l1, Nat.testBit_two_pow_mul_add _ (by omega)]
  split
  · rw [Nat.testBit_two_pow, Nat.testBit_two_pow_sub_one]
    by_cases hj : t = j
    · subst hj
      simp
    · simp [hj]
  · rename_i h
    rw [Bool.and_self]
    simp
    omega
theorem Low.neg {x t : Nat} (h : Low x t) (hx : x < 2 ^ 64) : x &&& (2 ^ 64 - x) = 2 ^ t := by
  have ht : t < 64 := by
    rcases Nat.lt_or_ge t 64 with h1 | h1
    · exact h1
    · obtain ⟨m, rfl⟩ := h
      have := Nat.pow_le_pow_right (n := 2) (by omega) h1
      omega
  obtain ⟨m, rfl⟩ := h
  have hp := Nat.two_pow_pos t
  have l1 : 2 ^ t < 2 ^ (t + 1) := Nat.pow_lt_pow_right (by omega) (by omega)
  have e64 : (2 : Nat) ^ 64 = 2 ^ (t + 1) * 2 ^ (63 - t) := by rw [← Nat.pow_add]; congr 1; omega
  have hm : m < 2 ^ (63 - t) := by
    rcases Nat.lt_or_ge m (2 ^ (63 - t)) with h1 | h1
    · exact h1
    · have := Nat.mul_le_mul_left (2 ^ (t + 1)) h1
      omega
  have e : 2 ^ 64 - (2 ^ (t + 1) * m + 2 ^ t) = 2 ^ (t + 1) * (2 ^ (63 - t) - (m + 1)) + 2 ^ t := by
    have h2 : 2 ^ (t + 1) = 2 ^ t + 2 ^ t := by rw [Nat.pow_succ]; omega
    have : 2 ^ (t + 1) * (2 ^ (63 - t) - (m + 1)) = 2 ^ (t + 1) * 2 ^ (63 - t) - 2 ^ (t + 1) * (m + 1) := Nat.mul_sub _ _ _
    rw [this, ← e64, Nat.mul_add, Nat.mul_one]
    have : 2 ^ (t + 1) * m + 2 ^ (t + 1) ≤ 2 ^ 64 := by
      rw [e64]
      have := Nat.mul_le_mul_left (2 ^ (t + 1)) (show m + 1 ≤ 2 ^ (63 - t) by omega)
      rw [Nat.mul_add, Nat.mul_one] at this
      exact this
    omega
  rw [e]
  refine Nat.eq_of_testBit_eq fun j => ?_
  rw [Nat.testBit_and, Nat.testBit_two_pow_mul_add _ l1, Nat.testBit_two_pow_mul_add _ l1, Nat.testBit_two_pow]
  split
  · rw [Bool.and_self]
  · rename_i h
    rw [Nat.testBit_two_pow_sub_succ hm]
    have : decide (t = j) = false := by simp; omega
    rw [this]
    cases m.testBit (j - (t + 1)) <;> simp
/-- The table of math/bits. -/
def tzTab : List Nat := [0, 1, 56, 2, 57, 49, 28, 3, 61, 58, 42, 50, 38, 29, 17, 4, 62, 47, 59, 36, 45, 43, 51, 22, 53, 39, 33, 30, 24, 18, 12, 5, 63, 55, 48, 27, 60, 41, 37, 16, 46, 35, 44, 21, 52, 32, 23, 11, 54, 26, 40, 15, 34, 20, 31, 10, 25, 14, 19, 9, 13, 8, 7, 6]
theorem tz_ok : ∀ t, t < 64 → (2 ^ t * 285870213051353865 % 18446744073709551616) / 288230376151711744 < 64 ∧ tzTab[(2 ^ t * 285870213051353865 % 18446744073709551616) / 288230376151711744]? = some t := by decide
end Go.Proofs.YtnjcgpihfmklfaaDoor
