/-
  Patterns as strings: what a string is read as, and how a pattern is printed.
-/
import Derived.Test.YtnjcgpihfmklfaaDoorQa
namespace Go.Proofs.YtnjcgpihfmklfaaDoor
def plainB (b : Nat) : Bool := 33 ≤ b && b ≤ 126 && !(b == 40 || b == 41 || b == 42 || b == 45 || b == 91 || b == 92 || b == 93 || b == 124)
def hexV (b : Nat) : Option Nat := if 48 ≤ b ∧ b ≤ 57 then some (b - 48) else if 97 ≤ b ∧ b ≤ 102 then some (b - 87) else none
section
variable (n : Nat) (c : Nat → Nat)
def chrP (i : Nat) : Option (Nat × Nat) :=
 if plainB (c i) then some (c i, i + 1)
 else if c i = 92 ∧ c (i + 1) = 120 then
  match hexV (c (i + 2)), hexV (c (i + 3)) with
  | some h, some l => some (16 * h + l, i + 4)
  | _, _ => none
 else none
def starsP : Nat → Pat → Nat → Pat × Nat
 | 0, t, m => (t, m)
 | k + 1, t, m => if c m = 42 then starsP k (.rep t) (m + 1) else (t, m)
mutual
def atomP : Nat → Nat → Option (Pat × Nat)
 | 0, _ => none
 | f + 1, i =>
  if c i = 91 then
   match chrP c (i + 1) with
   | none => none
   | some (lo, m) =>
    if c m = 45 then
     match chrP c (m + 1) with
     | none => none
     | some (hi, k) => if c k = 93 ∧ lo ≤ hi then some (.rng lo hi, k + 1) else none
    else none
  else if c i = 40 then
   if c (i + 1) = 41 then some (.emp, i + 2)
   else
    match altsP f (i + 1) with
    | none => none
    | some (t, m) => if c m = 41 then some (t, m + 1) else none
  else
   match chrP c i with
   | none => none
   | some (b, m) => some (.rng b b, m)
def repeP : Nat → Nat → Option (Pat × Nat)
 | 0, _ => none
 | f + 1, i =>
  match atomP f i with
  | none => none
  | some (t, m) => some (starsP c (n - m) t m)
def seqP : Nat → Nat → Option (Pat × Nat)
 | 0, _ => none
 | f + 1, i =>
  match repeP f i with
  | none => none
  | some (t, m) => seqL f t m
def seqL : Nat → Pat → Nat → Option (Pat × Nat)
 | 0, _, _ => none
 | f + 1, t, m =>
  if m < n ∧ c m ≠ 124 ∧ c m ≠ 41 then
   match repeP f m with
   | none => none
   | some (u, k) => seqL f (.seq t u) k
  else some (t, m)
def altsP : Nat → Nat → Option (Pat × Nat)
 | 0, _ => none
 | f + 1, i =>
  match seqP f i with
  | none => none
  | some (t, m) => altL f t m
def altL : Nat → Pat → Nat → Option (Pat × Nat)
 | 0, _, _ => none
 | f + 1, t, m =>
  if c m = 124 then
   match seqP f (m + 1) with
   | none => none
   | some (u, k) => altL f (.alt t u) k
  else some (t, m)
end
end
def Ends (n : Nat) (c : Nat → Nat) : Prop := ∀ i, n ≤ i → c i = 0
section
variable {n : Nat} {c : Nat → Nat} (hc : Ends n c)
include hc
theorem Ends.lt {i : Nat} (h : c i ≠ 0) : i < n := by
 rcases Nat.lt_or_ge i n with h1 | h1
 ·exact h1
 ·exact absurd (hc i h1) h
theorem chrP_to {i b m : Nat} (h : chrP c i = some (b, m)) : i < m ∧ m ≤ n := by
 unfold chrP at h
 split at h
 ·rename_i hp
  simp only [Option.some.injEq, Prod.mk.injEq] at h
  have : c i ≠ 0 := fun e => by rw [e] at hp; simp [plainB] at hp
  have := hc.lt this
  omega
 ·split at h
  ·split at h
   ·rename_i hl _ h2
    simp only [Option.some.injEq, Prod.mk.injEq] at h
    have : c (i + 3) ≠ 0 := fun e => by rw [e] at h2; simp [hexV] at h2
    have := hc.lt this
    omega
   ·cases h
  ·cases h
theorem starsP_to : ∀ (k : Nat) (t : Pat) (m : Nat), m ≤ n → m ≤ (starsP c k t m).2 ∧ (starsP c k t m).2 ≤ n
 | 0, t, m, h => ⟨Nat.le_refl _, h⟩
 | k + 1, t, m, h => by
  unfold starsP
  split
  ·rename_i h42
   have := hc.lt (i := m) (by omega)
   have := starsP_to k (.rep t) (m + 1) (by omega)
   omega
  ·exact ⟨Nat.le_refl _, h⟩
theorem parse_to (f : Nat) : (∀ i t m, atomP n c f i = some (t, m) → i < m ∧ m ≤ n) ∧ (∀ i t m, repeP n c f i = some (t, m) → i < m ∧ m ≤ n) ∧ (∀ i t m, seqP n c f i = some (t, m) → i < m ∧ m ≤ n) ∧
  (∀ u i t m, i ≤ n → seqL n c f u i = some (t, m) → i ≤ m ∧ m ≤ n) ∧ (∀ i t m, altsP n c f i = some (t, m) → i < m ∧ m ≤ n) ∧ (∀ u i t m, i ≤ n → altL n c f u i = some (t, m) → i ≤ m ∧ m ≤ n) := by
 induction f with
 | zero => refine ⟨?_, ?_, ?_, ?_, ?_, ?_⟩ <;> intros <;> simp_all [atomP, repeP, seqP, seqL, altsP, altL]
 | succ f ih =>
  obtain ⟨i1, i2, i3, i4, i5, i6⟩ := ih
  refine ⟨fun i t m h => ?_, fun i t m h => ?_, fun i t m h => ?_, fun u i t m hi h => ?_, fun i t m h => ?_, fun u i t m hi h => ?_⟩
  ·unfold atomP at h
   split at h
   ·split at h
    ·cases h
    ·rename_i lo m1 h1
     split at h
     ·split at h
      ·cases h
      ·rename_i hi k h2
       split at h
       ·rename_i h3
        simp only [Option.some.injEq, Prod.mk.injEq] at h
        have := hc.lt (i := k) (by omega)
        have := chrP_to hc h1
        have := chrP_to hc h2
        omega
       ·cases h
     ·cases h
   ·split at h
    ·rename_i h40
     have := hc.lt (i := i) (by omega)
     split at h
     ·rename_i h41
      have := hc.lt (i := i + 1) (by omega)
      simp only [Option.some.injEq, Prod.mk.injEq] at h
      omega
     ·split at h
      ·cases h
      ·rename_i t1 m1 h1
       have := i5 _ _ _ h1
       split at h
       ·rename_i h41
        have := hc.lt (i := m1) (by omega)
        simp only [Option.some.injEq, Prod.mk.injEq] at h
        omega
       ·cases h
    ·split at h
     ·cases h
     ·rename_i b m1 h1
      simp only [Option.some.injEq, Prod.mk.injEq] at h
      have := chrP_to hc h1
      omega
  ·unfold repeP at h
   split at h
   ·cases h
   ·rename_i t1 m1 h1
    simp only [Option.some.injEq] at h
    have := i1 _ _ _ h1
    have e := starsP_to hc (n - m1) t1 m1 this.2
    rw [h] at e
    exact ⟨by omega, e.2⟩
  ·unfold seqP at h
   split at h
   ·cases h
   ·rename_i t1 m1 h1
    have := i2 _ _ _ h1
    have := i4 _ _ _ _ this.2 h
    omega
  ·unfold seqL at h
   split at h
   ·split at h
    ·cases h
    ·rename_i t1 m1 h1
     have := i2 _ _ _ h1
     have := i4 _ _ _ _ this.2 h
     omega
   ·simp only [Option.some.injEq, Prod.mk.injEq] at h
    omega
  ·unfold altsP at h
   split at h
   ·cases h
   ·rename_i t1 m1 h1
    have := i3 _ _ _ h1
    have := i6 _ _ _ _ this.2 h
    omega
  ·unfold altL at h
   split at h
   ·split at h
    ·cases h
    ·rename_i t1 m1 h1
     have := i3 _ _ _ h1
     have := i6 _ _ _ _ this.2 h
     omega
   ·simp only [Option.some.injEq, Prod.mk.injEq] at h
    omega
end
structure Nd where
 k : Int
 lo : Int
 hi : Int
 a : Int
 b : Int
deriving DecidableEq
namespace Pat
def size : Pat → Nat
 | emp | rng _ _ => 1
 | seq x y | alt x y => x.size + y.size + 1
 | rep x => x.size + 1
theorem size_pos : ∀ t : Pat, 0 < t.size
 | emp | rng _ _ | seq _ _ | alt _ _ | rep _ => by simp [size]
def nodes : Nat → Pat → List Nd
 | _, emp => [⟨0, 0, 0, 0, 0⟩]
 | _, rng lo hi => [⟨1, lo, hi, 0, 0⟩]
 | o, seq x y => x.nodes o ++ y.nodes (o + x.size) ++ [⟨2, 0, 0, ((o + x.size - 1 : Nat) : Int), ((o + x.size + y.size - 1 : Nat) : Int)⟩]
 | o, alt x y => x.nodes o ++ y.nodes (o + x.size) ++ [⟨3, 0, 0, ((o + x.size - 1 : Nat) : Int), ((o + x.size + y.size - 1 : Nat) : Int)⟩]
 | o, rep x => x.nodes o ++ [⟨4, 0, 0, ((o + x.size - 1 : Nat) : Int), 0⟩]
theorem nodes_length : ∀ (t : Pat) (o : Nat), (t.nodes o).length = t.size
 | emp, _ | rng _ _, _ => rfl
 | seq x y, o | alt x y, o => by simp [nodes, size, nodes_length x, nodes_length y]; omega
 | rep x, o => by simp [nodes, size, nodes_length x]
def level : Pat → Nat
 | alt _ _ => 1
 | seq _ _ => 2
 | _ => 3
end Pat
def hexD (k : Nat) : Nat := if k < 10 then 48 + k else 87 + k
theorem starsP_size (c : Nat → Nat) : ∀ (k : Nat) (t : Pat) (m : Nat), (starsP c k t m).1.size + m ≤ t.size + (starsP c k t m).2 ∧ m ≤ (starsP c k t m).2
 | 0, t, m => ⟨Nat.le_refl _, Nat.le_refl _⟩
 | k + 1, t, m => by
  unfold starsP
  split
  ·have := starsP_size c k (.rep t) (m + 1)
   simp only [Pat.size] at this
   omega
  ·exact ⟨Nat.le_refl _, Nat.le_refl _⟩
theorem parse_size {n : Nat} {c : Nat → Nat} (hc : Ends n c) (f : Nat) : (∀ i t m, atomP n c f i = some (t, m) → t.size + 1 + 2 * i ≤ 2 * m) ∧ (∀ i t m, repeP n c f i = some (t, m) → t.size + 1 + 2 * i ≤ 2 * m) ∧ (∀ i t m, seqP n c f i = some (t, m) → t.size + 1 + 2 * i ≤ 2 * m) ∧
  (∀ u i t m, seqL n c f u i = some (t, m) → t.size + 2 * i ≤ u.size + 2 * m) ∧ (∀ i t m, altsP n c f i = some (t, m) → t.size + 1 + 2 * i ≤ 2 * m) ∧ (∀ u i t m, altL n c f u i = some (t, m) → t.size + 2 * i ≤ u.size + 2 * m) := by
 induction f with
 | zero => refine ⟨?_, ?_, ?_, ?_, ?_, ?_⟩ <;> intros <;> simp_all [atomP, repeP, seqP, seqL, altsP, altL]
 | succ f ih =>
  obtain ⟨i1, i2, i3, i4, i5, i6⟩ := ih
  refine ⟨fun i t m h => ?_, fun i t m h => ?_, fun i t m h => ?_, fun u i t m h => ?_, fun i t m h => ?_, fun u i t m h => ?_⟩
  ·unfold atomP at h
   split at h
   ·split at h
    ·cases h
    ·rename_i lo m1 h1
     split at h
     ·split at h
      ·cases h
      ·rename_i hi k h2
       split at h
       ·simp only [Option.some.injEq, Prod.mk.injEq] at h
        obtain ⟨rfl, rfl⟩ := h
        have := chrP_to hc h1
        have := chrP_to hc h2
        simp only [Pat.size]
        omega
       ·cases h
     ·cases h
   ·split at h
    ·split at h
     ·simp only [Option.some.injEq, Prod.mk.injEq] at h
      obtain ⟨rfl, rfl⟩ := h
      simp only [Pat.size]
      omega
     ·split at h
      ·cases h
      ·rename_i t1 m1 h1
       have := i5 _ _ _ h1
       split at h
       ·simp only [Option.some.injEq, Prod.mk.injEq] at h
        obtain ⟨rfl, rfl⟩ := h
        omega
       ·cases h
    ·split at h
     ·cases h
     ·rename_i b m1 h1
      simp only [Option.some.injEq, Prod.mk.injEq] at h
      obtain ⟨rfl, rfl⟩ := h
      have := chrP_to hc h1
      simp only [Pat.size]
      omega
  ·unfold repeP at h
   split at h
   ·cases h
   ·rename_i t1 m1 h1
    simp only [Option.some.injEq] at h
    have := i1 _ _ _ h1
    have e := starsP_size c (n - m1) t1 m1
    rw [h] at e
    simp only at e
    omega
  ·unfold seqP at h
   split at h
   ·cases h
   ·rename_i t1 m1 h1
    have := i2 _ _ _ h1
    have := i4 _ _ _ _ h
    omega
  ·unfold seqL at h
   split at h
   ·split at h
    ·cases h
    ·rename_i t1 m1 h1
     have := i2 _ _ _ h1
     have := i4 _ _ _ _ h
     simp only [Pat.size] at this
     omega
   ·simp only [Option.some.injEq, Prod.mk.injEq] at h
    obtain ⟨rfl, rfl⟩ := h
    omega
  ·unfold altsP at h
   split at h
   ·cases h
   ·rename_i t1 m1 h1
    have := i3 _ _ _ h1
    have := i6 _ _ _ _ h
    omega
  ·unfold altL at h
   split at h
   ·split at h
    ·cases h
    ·rename_i t1 m1 h1
     have := i3 _ _ _ h1
     have := i6 _ _ _ _ h
     simp only [Pat.size] at this
     omega
   ·simp only [Option.some.injEq, Prod.mk.injEq] at h
    obtain ⟨rfl, rfl⟩ := h
    omega
def chS (b : Nat) : List Nat := if plainB b then [b] else [92, 120, hexD (b / 16), hexD (b % 16)]
namespace Pat
def par (p : Bool) (s : List Nat) : List Nat := if p then 40 :: s ++ [41] else s
def pr : Pat → List Nat
 | emp => [40, 41]
 | rng lo hi => if lo < hi then 91 :: chS lo ++ (45 :: chS hi ++ [93]) else chS lo
 | seq x y => par (x.level < 2) x.pr ++ par (y.level < 3) y.pr
 | alt x y => x.pr ++ (124 :: par (y.level < 2) y.pr)
 | rep x => par (x.level < 3) x.pr ++ [42]
def byt : Pat → Prop
 | emp => True
 | rng lo hi => lo ≤ hi ∧ hi ≤ 255
 | seq x y | alt x y => x.byt ∧ y.byt
 | rep x => x.byt
end Pat
end Go.Proofs.YtnjcgpihfmklfaaDoor
