/-
  What is printed is read again.
-/
import Derived.Test.YtnjcgpihfmklfaaDoorQg
namespace Go.Proofs.YtnjcgpihfmklfaaDoor
open Go
set_option maxRecDepth 10000

def Sits (c : Nat → Nat) (i : Nat) (s : List Nat) : Prop := ∀ k x, s[k]? = some x → c (i + k) = x
theorem Sits.app {c : Nat → Nat} {i : Nat} {s u : List Nat} (h : Sits c i (s ++ u)) : Sits c i s ∧ Sits c (i + s.length) u := by
  constructor
  · intro k x hk
    refine h k x ?_
    rw [List.getElem?_append_left (List.getElem?_eq_some_iff.1 hk).1]
    exact hk
  · intro k x hk
    rw [Nat.add_assoc]
    refine h (s.length + k) x ?_
    rw [List.getElem?_append_right (by omega), Nat.add_sub_cancel_left]
    exact hk
theorem Sits.cons {c : Nat → Nat} {i x : Nat} {s : List Nat} (h : Sits c i (x :: s)) : c i = x ∧ Sits c (i + 1) s := by
  refine ⟨h 0 x rfl, fun k y hk => ?_⟩
  rw [Nat.add_assoc, Nat.add_comm 1 k]
  exact h (k + 1) y (by simpa using hk)

inductive Wr : Nat → Pat → List Nat → Prop where
  | emp : Wr 3 .emp [40, 41]
  | rng {lo hi : Nat} : lo < hi → hi < 256 → Wr 3 (.rng lo hi) (91 :: chS lo ++ (45 :: chS hi ++ [93]))
  | one {b : Nat} : b < 256 → Wr 3 (.rng b b) (chS b)
  | rep {x : Pat} {s : List Nat} : Wr 3 x s → Wr 3 (.rep x) (s ++ [42])
  | par {t : Pat} {s : List Nat} : Wr 1 t s → Wr 3 t (40 :: s ++ [41])
  | fac {t : Pat} {s : List Nat} : Wr 3 t s → Wr 2 t s
  | seq {x y : Pat} {s u : List Nat} : Wr 2 x s → Wr 3 y u → Wr 2 (.seq x y) (s ++ u)
  | sqn {t : Pat} {s : List Nat} : Wr 2 t s → Wr 1 t s
  | alt {x y : Pat} {s u : List Nat} : Wr 1 x s → Wr 2 y u → Wr 1 (.alt x y) (s ++ 124 :: u)
def Rd1 (n : Nat) (c : Nat → Nat) (t : Pat) (i L : Nat) : Prop := c (i + L) ≠ 42 → (i + L < n → c (i + L) = 124 ∨ c (i + L) = 41) → ∃ d, d ≤ L ∧ ∀ f, 8 * L + 4 ≤ f + d → altsP n c (f + d) i = altL n c f t (i + L)
def Rd2 (n : Nat) (c : Nat → Nat) (t : Pat) (i L : Nat) : Prop := c (i + L) ≠ 42 → ∃ d, d ≤ L ∧ ∀ f, 8 * L + 2 ≤ f + d → seqP n c (f + d) i = seqL n c f t (i + L)
section
variable {n : Nat} {c : Nat → Nat}
theorem seqL_stop {t : Pat} {m f : Nat} (h : m < n → c m = 124 ∨ c m = 41) : seqL n c (f + 1) t m = some (t, m) := by
  unfold seqL
  rw [if_neg]
  rintro ⟨h1, h2, h3⟩
  rcases h h1 with e | e
  · exact h2 e
  · exact h3 e
theorem Rd2.seq {t : Pat} {i L : Nat} (h : Rd2 n c t i L) (h42 : c (i + L) ≠ 42) (hs : i + L < n → c (i + L) = 124 ∨ c (i + L) = 41) {f : Nat} (hf : 8 * L + 2 ≤ f) : seqP n c f i = some (t, i + L) := by
  obtain ⟨d, hd, h⟩ := h h42
  have := h (f - d) (by omega)
  rw [show f - d + d = f by omega] at this
  rw [this]
  obtain ⟨k, hk⟩ : ∃ k, f - d = k + 1 := ⟨f - d - 1, by
    rcases Nat.eq_zero_or_pos L with h0 | h0 <;> omega⟩
  rw [hk]
  exact seqL_stop hs
theorem Rd1.alt {t : Pat} {i L : Nat} (h : Rd1 n c t i L) (h42 : c (i + L) ≠ 42) (h124 : c (i + L) ≠ 124) (hs : i + L < n → c (i + L) = 124 ∨ c (i + L) = 41) {f : Nat} (hf : 8 * L + 4 ≤ f) : altsP n c f i = some (t, i + L) := by
  obtain ⟨d, hd, h⟩ := h h42 hs
  have := h (f - d) (by omega)
  rw [show f - d + d = f by omega] at this
  rw [this]
  obtain ⟨k, hk⟩ : ∃ k, f - d = k + 1 := ⟨f - d - 1, by
    rcases Nat.eq_zero_or_pos L with h0 | h0 <;> omega⟩
  rw [hk]
  unfold altL
  rw [if_neg h124]
end
end Go.Proofs.YtnjcgpihfmklfaaDoor
