/-
  Parse.
-/
import Derived.Test.YtnjcgpihfmklfaaDoorQf
namespace Go.Proofs.YtnjcgpihfmklfaaDoor
open Go Go.Proofs.Tryd
set_option maxRecDepth 10000
theorem plainB_good {b : Nat} (h : plainB b = true) : 33 ≤ b ∧ b ≤ 126 := by
 unfold plainB at h
 simp only [Bool.and_eq_true, decide_eq_true_eq] at h
 exact h.1
theorem hexV_good {b k : Nat} (h : hexV b = some k) : 33 ≤ b ∧ b ≤ 126 := by
 unfold hexV at h
 split at h
 ·omega
 ·split at h
  ·omega
  ·cases h
def Good (c : Nat → Nat) (i m : Nat) : Prop := ∀ j, i ≤ j → j < m → 33 ≤ c j ∧ c j ≤ 126
theorem Good.join {c : Nat → Nat} {i m k : Nat} (h1 : Good c i m) (h2 : Good c m k) : Good c i k := fun j a b => by
 by_cases hj : j < m
 ·exact h1 j a hj
 ·exact h2 j (by omega) b
theorem Good.one {c : Nat → Nat} {i : Nat} (h : 33 ≤ c i ∧ c i ≤ 126) : Good c i (i + 1) := fun j a b => by
 obtain rfl : j = i := by omega
 exact h
theorem Good.nil {c : Nat → Nat} {i : Nat} : Good c i i := fun j a b => by omega
theorem chrP_good {c : Nat → Nat} {i b m : Nat} (h : chrP c i = some (b, m)) : Good c i m := by
 unfold chrP at h
 split at h
 ·rename_i hp
  simp only [Option.some.injEq, Prod.mk.injEq] at h
  obtain ⟨rfl, rfl⟩ := h
  exact .one (plainB_good hp)
 ·split at h
  ·rename_i hq
   split at h
   ·rename_i h1 h2
    simp only [Option.some.injEq, Prod.mk.injEq] at h
    obtain ⟨rfl, rfl⟩ := h
    exact (((Good.one (by omega)).join (.one (by omega))).join (.one (hexV_good h1))).join (.one (hexV_good h2))
   ·cases h
  ·cases h
theorem starsP_good {c : Nat → Nat} : ∀ (k : Nat) (t : Pat) (m : Nat), Good c m (starsP c k t m).2
 | 0, t, m => .nil
 | k + 1, t, m => by
  unfold starsP
  split
  ·exact (Good.one (by omega)).join (starsP_good k (.rep t) (m + 1))
  ·exact .nil
theorem parse_good {n : Nat} {c : Nat → Nat} (f : Nat) : (∀ i t m, atomP n c f i = some (t, m) → Good c i m) ∧ (∀ i t m, repeP n c f i = some (t, m) → Good c i m) ∧ (∀ i t m, seqP n c f i = some (t, m) → Good c i m) ∧
  (∀ u i t m, seqL n c f u i = some (t, m) → Good c i m) ∧ (∀ i t m, altsP n c f i = some (t, m) → Good c i m) ∧ (∀ u i t m, altL n c f u i = some (t, m) → Good c i m) := by
 induction f with
 | zero => refine ⟨?_, ?_, ?_, ?_, ?_, ?_⟩ <;> intros <;> simp_all [atomP, repeP, seqP, seqL, altsP, altL]
 | succ f ih =>
  obtain ⟨i1, i2, i3, i4, i5, i6⟩ := ih
  refine ⟨fun i t m h => ?_, fun i t m h => ?_, fun i t m h => ?_, fun u i t m h => ?_, fun i t m h => ?_, fun u i t m h => ?_⟩
  ·unfold atomP at h
   split at h
   ·split at h
    ·cases h
    ·rename_i lo m1 h1
     split at h
     ·split at h
      ·cases h
      ·rename_i hi k h2
       split at h
       ·simp only [Option.some.injEq, Prod.mk.injEq] at h
        obtain ⟨rfl, rfl⟩ := h
        exact ((((Good.one (by omega)).join (chrP_good h1)).join (.one (by omega))).join (chrP_good h2)).join (.one (by omega))
       ·cases h
     ·cases h
   ·split at h
    ·split at h
     ·simp only [Option.some.injEq, Prod.mk.injEq] at h
      obtain ⟨rfl, rfl⟩ := h
      exact (Good.one (by omega)).join (.one (by omega))
     ·split at h
      ·cases h
      ·rename_i t1 m1 h1
       split at h
       ·simp only [Option.some.injEq, Prod.mk.injEq] at h
        obtain ⟨rfl, rfl⟩ := h
        exact ((Good.one (by omega)).join (i5 _ _ _ h1)).join (.one (by omega))
       ·cases h
    ·split at h
     ·cases h
     ·rename_i b m1 h1
      simp only [Option.some.injEq, Prod.mk.injEq] at h
      obtain ⟨rfl, rfl⟩ := h
      exact chrP_good h1
  ·unfold repeP at h
   split at h
   ·cases h
   ·rename_i t1 m1 h1
    simp only [Option.some.injEq] at h
    have e := starsP_good (c := c) (n - m1) t1 m1
    rw [h] at e
    exact (i1 _ _ _ h1).join e
  ·unfold seqP at h
   split at h
   ·cases h
   ·rename_i t1 m1 h1
    exact (i2 _ _ _ h1).join (i4 _ _ _ _ h)
  ·unfold seqL at h
   split at h
   ·split at h
    ·cases h
    ·rename_i t1 m1 h1
     exact (i2 _ _ _ h1).join (i4 _ _ _ _ h)
   ·simp only [Option.some.injEq, Prod.mk.injEq] at h
    obtain ⟨rfl, rfl⟩ := h
    exact .nil
  ·unfold altsP at h
   split at h
   ·cases h
   ·rename_i t1 m1 h1
    exact (i3 _ _ _ h1).join (i6 _ _ _ _ h)
  ·unfold altL at h
   split at h
   ·split at h
    ·cases h
    ·rename_i t1 m1 h1
     exact ((Good.one (by omega)).join (i3 _ _ _ h1)).join (i6 _ _ _ _ h)
   ·simp only [Option.some.injEq, Prod.mk.injEq] at h
    obtain ⟨rfl, rfl⟩ := h
    exact .nil
def parseF (st : ByteArray) : Nat := 8 * (st.size + 1) + 3
def parseT (st : ByteArray) : Option Pat :=
 match altsP st.size (cb st) (parseF st) 0 with
 | some (t, m) => if m = st.size then some t else none
 | none => none
def parseR (st : ByteArray) : List Nd × Int :=
 if 8192 < st.size then ([], 2)
 else match parseT st with
  | some t => if 512 < t.size then ([], 2) else (t.nodes 0, 0)
  | none => ([], 40)
theorem decode_small {s : ByteArray} {i : Nat} (h : i < s.size) (h1 : cb s i < 128) : Utf8.decode s i = (cb s i, 1) := by
 have e : (s.get! (i + 0)).toNat = cb s i := by
  rw [cb_lt h]
  simp [ByteArray.get!, getElem!_pos, h]
  rfl
 unfold Utf8.decode
 simp only [e]
 rw [if_pos h1]
theorem decode_big {s : ByteArray} {i : Nat} (h : i < s.size) (h1 : 128 ≤ cb s i) : 128 ≤ (Utf8.decode s i).1 := by
 have e : (s.get! (i + 0)).toNat = cb s i := by
  rw [cb_lt h]
  simp [ByteArray.get!, getElem!_pos, h]
  rfl
 unfold Utf8.decode
 simp only [e]
 rw [if_neg (by omega)]
 repeat' split
 all_goals simp_all [Utf8.runeError]
 all_goals omega
def PatV (F : PH) (v : Value) (l : List Nd) : Prop := ∃ s : Sl, v = s.v ∧ RdS F s 5 (nflat l)
theorem PatV.le {F G : PH} {v : Value} {l : List Nd} (h : PatV F v l) (hl : F.le G) : PatV G v l := by
 obtain ⟨s, h1, h2⟩ := h
 exact ⟨s, h1, h2.le hl⟩
theorem PatV.nil (F : PH) : PatV F Sl.nil.v [] := ⟨_, rfl, RdS.nil F 5⟩
def PatR (F : PH) (r : Value) (x : List Nd × Int) : Prop := ∃ v, r = .tuple #[v, vi x.2] ∧ PatV F v x.1
theorem parse_spec (F : PH) (st : ByteArray) : Spec prog 25 #[.string st] F fun r F' => PatR F' r (parseR st) ∧ F.le F' := by
 refine c25 ?_
 unfold b25
 refine ⟨fun h => ?_, fun h => ?_⟩
 ·have e : parseR st = ([], 2) := by unfold parseR; rw [if_pos (by omega)]
  rw [e]
  exact ⟨⟨_, rfl, PatV.nil F⟩, le_refl' F⟩
 have e0 : parseR st = match parseT st with | some t => if 512 < t.size then ([], 2) else (t.nodes 0, 0) | none => ([], 40) := by unfold parseR; rw [if_neg (by omega)]
 intro b11 hb11
 refine atI ?_
 have l1 := le_set_fresh (.stringIter st 0) hb11
 refine ⟨fun m F' => ∃ p, F' = F.set b11 (.stringIter st p) ∧ p ≤ st.size ∧ m = st.size - p ∧ Good (cb st) 0 p, st.size, ⟨0, rfl, Nat.zero_le _, rfl, Good.nil⟩, ?_⟩
 rintro _ _ ⟨p, rfl, hp, rfl, hg⟩
 have q := set_eq F b11 (.stringIter st p)
 have lp : F.le (F.set b11 (.stringIter st p)) := le_set_fresh _ hb11
 unfold b25L1
 have hnext : ∀ {Q : Value → PH → Prop}, (if p < st.size then Q (.tuple #[.bool true, goInt p, .int .i32 ((Utf8.decode st p).1 : Int)]) (F.set b11 (.stringIter st (p + (Utf8.decode st p).2))) else Q (.tuple #[.bool false]) (F.set b11 (.stringIter st p))) →
   runs prog (Instr.next (.pointer (some (Addr.mk b11 0 none))) true 0) (F.set b11 (.stringIter st p)) Q := fun {Q} hQ => by
  unfold Instr.next
  simp only [runs_bind', getObj, runs]
  refine ⟨_, q, fun _ _ _ h => (by cases h), ?_⟩
  by_cases hlt : p < st.size
  ·rw [if_pos hlt] at hQ
   simp only [hlt, if_true, setObj, runs_bind', runs, runs_pure]
   refine ⟨_, q, fun _ _ _ h => (by cases h), ?_⟩
   rw [set_twice]
   exact hQ
  ·rw [if_neg hlt] at hQ
   simp only [hlt, if_false, runs_pure]
   exact hQ
 refine hnext ?_
 by_cases hlt : p < st.size
 ·rw [if_pos hlt]
  refine ⟨_, rfl, _, rfl, fun _ => ⟨_, rfl, ?_⟩, fun h => (by cases h)⟩
  have hbad : ¬ (33 ≤ cb st p ∧ cb st p ≤ 126) → PatR (F.set b11 (.stringIter st (p + (Utf8.decode st p).2))) (.tuple #[Sl.nil.v, vi 40]) (parseR st) ∧ F.le (F.set b11 (.stringIter st (p + (Utf8.decode st p).2))) := fun hn => by
   refine ⟨?_, le_set_fresh _ hb11⟩
   have e : parseT st = none := by
    unfold parseT
    split
    ·rename_i t m he
     split
     ·rename_i hm
      exact absurd ((parse_good (parseF st)).2.2.2.2.1 _ _ _ he p (Nat.zero_le _) (by omega)) hn
     ·rfl
    ·rfl
   rw [e0, e]
   exact ⟨_, rfl, PatV.nil _⟩
  by_cases h128 : cb st p < 128
  ·rw [decode_small hlt h128] at hbad ⊢
   refine ⟨fun h => hbad (by simp only at h; omega), fun h1 => ⟨fun h => hbad (by simp only at h; omega), fun h2 => ?_⟩⟩
   simp only at h1 h2
   exact ⟨st.size - (p + 1), by omega, p + 1, rfl, hlt, rfl, hg.join (.one (by omega))⟩
  ·have := decode_big hlt (by omega)
   exact ⟨fun h => hbad (by omega), fun h1 => ⟨fun h => hbad (by omega), fun h2 => absurd h2 (by omega)⟩⟩
 ·rw [if_neg hlt]
  refine ⟨_, rfl, _, rfl, fun h => (by cases h), fun _ => ?_⟩
  clear hnext
  generalize F.set b11 (.stringIter st p) = F1 at *
  unfold b25j1
  intro b23 hb23
  refine atI ?_
  have q23 := set_eq F1 b23 (.cells #[.string st, vi 0, .slice none 0 0, .bool false] 83)
  have l23 : F1.le (F1.set b23 (.cells #[.string st, vi 0, .slice none 0 0, .bool false] 83)) := le_set_fresh _ hb23
  generalize F1.set b23 (.cells #[.string st, vi 0, .slice none 0 0, .bool false] 83) = F2 at *
  have hr : Rdr F1 F2 b23 st 0 [] false := ⟨hb23, l23, Nat.zero_le _, by omega, Sl.nil, q23, .inl ⟨rfl, rfl⟩, fun a ha => by cases ha⟩
  refine ((reads_all (parseF st)).2.2 hr (by unfold parseF; omega) (by simp; omega)).mono ?_
  intro r F3 hr
  cases he : altsP st.size (cb st) (parseF st) 0 with
  | none =>
   rw [he] at hr
   obtain ⟨k, i', out', rfl, h3, hl⟩ := hr
   have hT : parseT st = none := by unfold parseT; rw [he]
   refine ⟨_, rfl, _, h3.c3, fun _ => ?_, fun h => (by cases h)⟩
   unfold b25j2
   refine ⟨fun _ => ⟨?_, le_trans' lp h3.le⟩, fun h => (by cases h)⟩
   rw [e0, hT]
   exact ⟨_, rfl, PatV.nil _⟩
  | some x =>
   obtain ⟨t, m⟩ := x
   rw [he] at hr
   obtain ⟨rfl, h3⟩ := hr
   have hto := (parse_to (cb_ends st) (parseF st)).2.2.2.2.1 _ _ _ he
   refine ⟨_, rfl, _, h3.c3, fun h => (by cases h), fun _ => ⟨_, h3.c1, ?_⟩⟩
   unfold b25j2
   refine ⟨fun hm => ⟨?_, le_trans' lp h3.le⟩, fun hm => ?_⟩
   ·have hT : parseT st = none := by
     unfold parseT
     rw [he]
     simp only
     rw [if_neg (by have := of_decide_eq_true hm; omega)]
    rw [e0, hT]
    exact ⟨_, rfl, PatV.nil _⟩
   ·have hT : parseT st = some t := by
     unfold parseT
     rw [he]
     simp only
     rw [if_pos (by have := of_decide_eq_false hm; omega)]
    rw [e0, hT]
    simp only [List.length_nil, List.nil_append] at h3
    obtain ⟨s, q, ho, hs⟩ := h3.ex
    have hlen := ho.rd.nlen
    rw [Pat.nodes_length] at hlen
    refine ⟨s, by rw [cell_eq q]; rfl, fun hl => ⟨?_, le_trans' lp h3.le⟩, fun hl => ⟨s, by rw [cell_eq q]; rfl, ?_, le_trans' lp h3.le⟩⟩
    ·simp only
     rw [if_pos (by omega)]
     exact ⟨_, rfl, PatV.nil _⟩
    ·simp only
     rw [if_neg (by omega)]
     exact ⟨_, rfl, s, rfl, ho.rd⟩
end Go.Proofs.YtnjcgpihfmklfaaDoor
