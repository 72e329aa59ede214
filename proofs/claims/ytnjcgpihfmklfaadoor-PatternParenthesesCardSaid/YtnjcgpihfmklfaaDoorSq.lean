/-
  A canonical string is a shortest one; its parentheses are balanced.
-/
import Derived.Test.YtnjcgpihfmklfaaDoorSn
namespace Go.Proofs.YtnjcgpihfmklfaaDoor
open Go
set_option maxRecDepth 10000
def len3 (t : Pat) : Nat := (Pat.par (t.level < 3) t.pr).length
def len2 (t : Pat) : Nat := (Pat.par (t.level < 2) t.pr).length
theorem par_len (p : Bool) (s : List Nat) : (Pat.par p s).length = if p then s.length + 2 else s.length := by
 unfold Pat.par
 split <;> simp
theorem len2_le (t : Pat) : len2 t ≤ len3 t := by
 unfold len2 len3
 rw [par_len, par_len]
 simp only [decide_eq_true_eq]
 split <;> split <;> omega
theorem len1_le (t : Pat) : t.pr.length ≤ len2 t := by
 unfold len2
 rw [par_len]
 split <;> omega
theorem len3_le (t : Pat) : len3 t ≤ t.pr.length + 2 := by
 unfold len3
 rw [par_len]
 split <;> omega
theorem hexV_lt {b k : Nat} (h : hexV b = some k) : k < 16 := by
 unfold hexV at h
 split at h
 ·cases h
  omega
 ·split at h
  ·cases h
   omega
  ·cases h
theorem chS_len (b : Nat) : (chS b).length ≤ 4 := by
 unfold chS
 split <;> simp
theorem chrP_min {c : Nat → Nat} {i b m : Nat} (h : chrP c i = some (b, m)) : b ≤ 255 ∧ (chS b).length + i ≤ m := by
 unfold chrP at h
 split at h
 ·rename_i hp
  simp only [Option.some.injEq, Prod.mk.injEq] at h
  obtain ⟨rfl, rfl⟩ := h
  have := (plainB_good hp).2
  unfold chS
  rw [if_pos hp]
  simp only [List.length_singleton]
  omega
 ·split at h
  ·split at h
   ·rename_i h1 h2
    simp only [Option.some.injEq, Prod.mk.injEq] at h
    obtain ⟨h3, rfl⟩ := h
    have := hexV_lt h1
    have := hexV_lt h2
    have := chS_len b
    omega
   ·cases h
  ·cases h
def Mn3 (t : Pat) (i m : Nat) : Prop := t.byt ∧ len3 t + i ≤ m
def Mn2 (t : Pat) (i m : Nat) : Prop := t.byt ∧ len2 t + i ≤ m
def Mn1 (t : Pat) (i m : Nat) : Prop := t.byt ∧ t.pr.length + i ≤ m
theorem starsP_min (c : Nat → Nat) : ∀ (k : Nat) (t : Pat) (i m : Nat), Mn3 t i m → Mn3 (starsP c k t m).1 i (starsP c k t m).2
 | 0, _, _, _, h => h
 | k + 1, t, i, m, h => by
  unfold starsP
  split
  ·refine starsP_min c k (.rep t) i (m + 1) ⟨h.1, ?_⟩
   have : len3 (.rep t) = len3 t + 1 := by
    unfold len3
    simp [Pat.level, Pat.par, Pat.pr]
   have := h.2
   omega
  ·exact h
theorem parse_min {n : Nat} {c : Nat → Nat} (f : Nat) : (∀ i t m, atomP n c f i = some (t, m) → Mn3 t i m) ∧ (∀ i t m, repeP n c f i = some (t, m) → Mn3 t i m) ∧ (∀ i t m, seqP n c f i = some (t, m) → Mn2 t i m) ∧
  (∀ u j i t m, Mn2 u j i → seqL n c f u i = some (t, m) → Mn2 t j m) ∧ (∀ i t m, altsP n c f i = some (t, m) → Mn1 t i m) ∧ (∀ u j i t m, Mn1 u j i → altL n c f u i = some (t, m) → Mn1 t j m) := by
 induction f with
 | zero => refine ⟨?_, ?_, ?_, ?_, ?_, ?_⟩ <;> intros <;> simp_all [atomP, repeP, seqP, seqL, altsP, altL]
 | succ f ih =>
  obtain ⟨i1, i2, i3, i4, i5, i6⟩ := ih
  refine ⟨fun i t m h => ?_, fun i t m h => ?_, fun i t m h => ?_, fun u j i t m hu h => ?_, fun i t m h => ?_, fun u j i t m hu h => ?_⟩
  ·unfold atomP at h
   split at h
   ·split at h
    ·cases h
    ·rename_i lo m1 h1
     split at h
     ·split at h
      ·cases h
      ·rename_i hi k h2
       split at h
       ·rename_i h3
        simp only [Option.some.injEq, Prod.mk.injEq] at h
        obtain ⟨rfl, rfl⟩ := h
        have a1 := chrP_min h1
        have a2 := chrP_min h2
        refine ⟨⟨h3.2, a2.1⟩, ?_⟩
        unfold len3 Pat.par
        simp only [Pat.level, Nat.lt_irrefl, decide_false, Bool.false_eq_true, if_false]
        unfold Pat.pr
        split
        ·simp only [List.length_append, List.length_cons, List.length_nil]
         omega
        ·omega
       ·cases h
     ·cases h
   ·split at h
    ·split at h
     ·simp only [Option.some.injEq, Prod.mk.injEq] at h
      obtain ⟨rfl, rfl⟩ := h
      exact ⟨trivial, by show 2 + i ≤ i + 2; omega⟩
     ·split at h
      ·cases h
      ·rename_i t1 m1 h1
       split at h
       ·simp only [Option.some.injEq, Prod.mk.injEq] at h
        obtain ⟨rfl, rfl⟩ := h
        have := i5 _ _ _ h1
        have := len3_le t1
        exact ⟨‹Mn1 _ _ _›.1, by have := ‹Mn1 t1 _ _›.2; omega⟩
       ·cases h
    ·split at h
     ·cases h
     ·rename_i b m1 h1
      simp only [Option.some.injEq, Prod.mk.injEq] at h
      obtain ⟨rfl, rfl⟩ := h
      have a1 := chrP_min h1
      refine ⟨⟨Nat.le_refl _, a1.1⟩, ?_⟩
      unfold len3 Pat.par
      simp only [Pat.level, Nat.lt_irrefl, decide_false, Bool.false_eq_true, if_false]
      unfold Pat.pr
      rw [if_neg (Nat.lt_irrefl _)]
      exact a1.2
  ·unfold repeP at h
   split at h
   ·cases h
   ·rename_i t1 m1 h1
    simp only [Option.some.injEq] at h
    have := starsP_min c (n - m1) t1 i m1 (i1 _ _ _ h1)
    rw [h] at this
    exact this
  ·unfold seqP at h
   split at h
   ·cases h
   ·rename_i t1 m1 h1
    have a := i2 _ _ _ h1
    have := len2_le t1
    exact i4 t1 i m1 t m ⟨a.1, by have := a.2; omega⟩ h
  ·unfold seqL at h
   split at h
   ·split at h
    ·cases h
    ·rename_i t1 m1 h1
     have a := i2 _ _ _ h1
     refine i4 (.seq u t1) j m1 t m ⟨⟨hu.1, a.1⟩, ?_⟩ h
     have e : len2 (.seq u t1) = len2 u + len3 t1 := by
      show (Pat.par (decide ((2 : Nat) < 2)) (Pat.seq u t1).pr).length = _
      simp [Pat.par, Pat.pr, len2, len3]
     have := a.2
     have := hu.2
     omega
   ·simp only [Option.some.injEq, Prod.mk.injEq] at h
    obtain ⟨rfl, rfl⟩ := h
    exact hu
  ·unfold altsP at h
   split at h
   ·cases h
   ·rename_i t1 m1 h1
    have a := i3 _ _ _ h1
    have := len1_le t1
    exact i6 t1 i m1 t m ⟨a.1, by have := a.2; omega⟩ h
  ·unfold altL at h
   split at h
   ·split at h
    ·cases h
    ·rename_i t1 m1 h1
     have a := i3 _ _ _ h1
     refine i6 (.alt u t1) j m1 t m ⟨⟨hu.1, a.1⟩, ?_⟩ h
     have e : (Pat.alt u t1).pr.length = u.pr.length + 1 + len2 t1 := by
      simp [Pat.pr, len2]
      omega
     have := a.2
     have := hu.2
     omega
   ·simp only [Option.some.injEq, Prod.mk.injEq] at h
    obtain ⟨rfl, rfl⟩ := h
    exact hu
theorem parseT_min {st : ByteArray} {t : Pat} (h : parseT st = some t) : t.byt ∧ t.pr.length ≤ st.size := by
 unfold parseT at h
 split at h
 ·rename_i t1 m h1
  split at h
  ·rename_i hm
   cases h
   have := (parse_min (n := st.size) (c := cb st) (parseF st)).2.2.2.2.1 _ _ _ h1
   exact ⟨this.1, by have := this.2; omega⟩
  ·cases h
 ·cases h
structure Bal (w : List Nat) : Prop where
 pre : ∀ k, (w.take k).count 41 ≤ (w.take k).count 40
 all : w.count 41 = w.count 40
theorem Bal.nil : Bal [] := ⟨fun k => by simp, rfl⟩
theorem Bal.app {u v : List Nat} (hu : Bal u) (hv : Bal v) : Bal (u ++ v) := by
 refine ⟨fun k => ?_, by rw [List.count_append, List.count_append, hu.all, hv.all]⟩
 rw [List.take_append, List.count_append, List.count_append]
 have := hu.pre k
 have := hv.pre (k - u.length)
 omega
theorem Bal.one {x : Nat} (h1 : x ≠ 40) (h2 : x ≠ 41) : Bal [x] := by
 refine ⟨fun k => ?_, ?_⟩
 ·cases k with
  | zero => simp
  | succ k => simp [List.count_cons, h1, h2]
 ·simp [List.count_cons, h1, h2]
theorem Bal.par {w : List Nat} (h : Bal w) : Bal (40 :: w ++ [41]) := by
 refine ⟨fun k => ?_, by simp [List.count_cons, List.count_append, h.all]⟩
 cases k with
 | zero => simp
 | succ k =>
  rw [List.cons_append, List.take_succ_cons, List.take_append]
  have := h.pre k
  have h3 : (List.take (k - w.length) [41]).count 41 ≤ 1 := by
   cases k - w.length with
   | zero => simp
   | succ j => simp
  rw [List.count_cons, List.count_cons, List.count_append, List.count_append]
  simp
  omega
theorem Bal.pp {p : Bool} {w : List Nat} (h : Bal w) : Bal (Pat.par p w) := by
 unfold Pat.par
 split
 ·exact h.par
 ·exact h
theorem chS_bal (b : Nat) : Bal (chS b) := by
 unfold chS
 split
 ·rename_i h
  have := h
  unfold plainB at this
  simp only [Bool.and_eq_true, Bool.not_eq_true', Bool.or_eq_false_iff, beq_eq_false_iff_ne, decide_eq_true_eq] at this
  exact .one (by omega) (by omega)
 ·have hd : ∀ k, hexD k ≠ 40 ∧ hexD k ≠ 41 := fun k => by
   unfold hexD
   split <;> omega
  exact Bal.app (u := [92]) (.one (by decide) (by decide)) (Bal.app (u := [120]) (.one (by decide) (by decide)) (Bal.app (u := [hexD (b / 16)]) (.one (hd _).1 (hd _).2) (.one (hd _).1 (hd _).2)))
theorem pr_bal : ∀ t : Pat, Bal t.pr
 | .emp => Bal.par (w := []) .nil
 | .rng lo hi => by
  unfold Pat.pr
  split
  ·exact Bal.app (u := 91 :: chS lo) (Bal.app (u := [91]) (.one (by decide) (by decide)) (chS_bal lo)) (Bal.app (u := 45 :: chS hi) (Bal.app (u := [45]) (.one (by decide) (by decide)) (chS_bal hi)) (.one (by decide) (by decide)))
  ·exact chS_bal lo
 | .seq x y => Bal.app (pr_bal x).pp (pr_bal y).pp
 | .alt x y => Bal.app (pr_bal x) (Bal.app (u := [124]) (.one (by decide) (by decide)) (pr_bal y).pp)
 | .rep x => Bal.app (pr_bal x).pp (.one (by decide) (by decide))
end Go.Proofs.YtnjcgpihfmklfaaDoor
