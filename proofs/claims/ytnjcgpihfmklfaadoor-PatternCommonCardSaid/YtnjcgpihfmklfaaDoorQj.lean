/-
  The reference's reader: atoms, repetitions, sequences, alternatives, Parse; the comparison of patterns.
-/
import Derived.Test.YtnjcgpihfmklfaaDoorQi
namespace Go.Proofs.YtnjcgpihfmklfaaDoor
open Go Go.Proofs.Tryd
set_option maxRecDepth 10000

/-- What the reference's reading returns. -/
def RfR (st : ByteArray) (i : Nat) : Option (Pat × Nat) → Value → PH → Prop
  | some (t, m), r, F' => ∃ v, r = .tuple #[v, vi (m : Nat)] ∧ PatV F' v (t.nodes 0)
  | none, r, F' => ∃ v l, r = .tuple #[v, vi (-1)] ∧ PatV F' v l ∧ l.length ≤ 2 * (st.size - i) + 2
def RReads (st : ByteArray) (f : FuncId) (need : Nat) (p : Nat → Nat → Option (Pat × Nat)) (fuel : Nat) : Prop :=
  ∀ {F : PH} {i : Nat}, i ≤ st.size → 8 * (st.size + 1 - i) + need ≤ fuel → Spec prog f #[.string st, vi i] F fun r F' => RfR st i (p fuel i) r F' ∧ F.le F'

section
variable {st : ByteArray} (hn : st.size ≤ 8192)
include hn
theorem ratom_step {f : Nat} (ih : RReads st 56 3 (altsP st.size (cb st)) f) : RReads st 94 0 (atomP st.size (cb st)) (f + 1) := by
  intro F i hi hf
  refine c94 ?_
  unfold b94
  have bad : ∀ {F' : PH}, atomP st.size (cb st) (f + 1) i = none → F.le F' → RfR st i (atomP st.size (cb st) (f + 1) i) (.tuple #[Sl.nil.v, vi (-1)]) F' ∧ F.le F' := fun h hl => by
    rw [h]
    exact ⟨⟨_, [], rfl, PatV.nil _, by simp⟩, hl⟩
  have good : ∀ {F' : PH} {t : Pat} {m : Nat} {v : Value} {x : Int}, atomP st.size (cb st) (f + 1) i = some (t, m) → x = m → PatV F' v (t.nodes 0) → F.le F' → RfR st i (atomP st.size (cb st) (f + 1) i) (.tuple #[v, vi x]) F' ∧ F.le F' := fun h hx hv hl => by
    rw [h, hx]
    exact ⟨⟨_, rfl, hv⟩, hl⟩
  have hcl : ∀ {i' : Nat}, cb st i' ≠ 0 → i' < st.size := fun h => (cb_ends st).lt h
  have e1 : IntKind.i64.wrap ((i : Int) + 1) = ((i + 1 : Nat) : Int) := by rw [w64_eq (by omega) (by omega)]; omega
  have e2 : IntKind.i64.wrap ((i : Int) + 2) = ((i + 2 : Nat) : Int) := by rw [w64_eq (by omega) (by omega)]; omega
  rw [e1]
  refine (byteAt_spec st i).mono ?_
  rintro _ F1 ⟨rfl, e⟩
  obtain rfl := e.symm
  clear e
  refine ⟨_, rfl, fun hc => ?_, fun hc => ?_⟩
  · have hc : cb st i = 91 := by omega
    have hlt := hcl (i' := i) (by omega)
    refine (character_ref st hn (i + 1) (by omega)).mono ?_
    rintro r _ ⟨hr, rfl⟩
    cases h1 : chrP (cb st) (i + 1) with
    | none =>
      rw [h1] at hr
      obtain ⟨k, rfl⟩ := hr
      refine ⟨_, _, rfl, fun _ => bad ?_ (le_refl' _), fun h => absurd h (by decide)⟩
      unfold atomP
      rw [if_pos hc, h1]
    | some p =>
      obtain ⟨lo, m⟩ := p
      rw [h1] at hr
      simp only at hr
      subst hr
      have hm := chrP_to (cb_ends st) h1
      refine ⟨_, _, rfl, fun h => absurd h (by omega), fun _ => ?_⟩
      refine (byteAt_spec st m).mono ?_
      rintro _ _ ⟨rfl, rfl⟩
      refine ⟨_, rfl, fun hd => bad ?_ (le_refl' _), fun hd => ?_⟩
      · unfold atomP
        rw [if_pos hc, h1]
        simp only
        rw [if_neg (by omega)]
      · have hd : cb st m = 45 := by omega
        have e3 : IntKind.i64.wrap ((m : Int) + 1) = ((m + 1 : Nat) : Int) := by rw [w64_eq (by omega) (by omega)]; omega
        rw [e3]
        refine (character_ref st hn (m + 1) (by omega)).mono ?_
        rintro r _ ⟨hr, rfl⟩
        cases h2 : chrP (cb st) (m + 1) with
        | none =>
          rw [h2] at hr
          obtain ⟨k, rfl⟩ := hr
          refine ⟨_, _, rfl, fun _ => bad ?_ (le_refl' _), fun h => absurd h (by decide)⟩
          unfold atomP
          rw [if_pos hc, h1]
          simp only
          rw [if_pos hd, h2]
        | some p =>
          obtain ⟨hi', k⟩ := p
          rw [h2] at hr
          simp only at hr
          subst hr
          have hk := chrP_to (cb_ends st) h2
          refine ⟨_, _, rfl, fun h => absurd h (by omega), fun _ => ?_⟩
          refine (byteAt_spec st k).mono ?_
          rintro _ _ ⟨rfl, rfl⟩
          refine ⟨_, rfl, fun hz => bad ?_ (le_refl' _), fun hz => ⟨fun hlh => bad ?_ (le_refl' _), fun hlh => ?_⟩⟩
          · unfold atomP
            rw [if_pos hc, h1]
            simp only
            rw [if_pos hd, h2]
            simp only
            rw [if_neg (by omega)]
          · unfold atomP
            rw [if_pos hc, h1]
            simp only
            rw [if_pos hd, h2]
            simp only
            rw [if_neg (by omega)]
          · refine (one_ref _ _ _).mono ?_
            rintro _ F2 ⟨⟨s, rfl, hs⟩, l2⟩
            refine ⟨_, rfl, good (t := .rng lo hi') (m := k + 1) ?_ ?_ ⟨s, rfl, hs⟩ l2⟩
            · unfold atomP
              rw [if_pos hc, h1]
              simp only
              rw [if_pos hd, h2]
              simp only
              rw [if_pos (by omega)]
            · rw [w64_eq (by omega) (by omega)]
              omega
  · have hc : ¬ cb st i = 91 := by omega
    have j1 : ∀ t : Bool, t = decide (cb st i = 40 ∧ cb st (i + 1) = 41) → b94j1 st i t (fun r F' => RfR st i (atomP st.size (cb st) (f + 1) i) r F' ∧ F.le F') F := fun t ht => by
      unfold b94j1
      rw [e1, e2]
      refine ⟨fun h => ?_, fun h => ?_⟩
      · have h := of_decide_eq_true (ht.symm.trans h)
        refine (empty_ref F).mono ?_
        rintro _ F2 ⟨⟨s, rfl, hs⟩, l2⟩
        refine ⟨_, rfl, good (t := .emp) (m := i + 2) ?_ rfl ⟨s, rfl, hs⟩ l2⟩
        unfold atomP
        rw [if_neg hc, if_pos h.1, if_pos h.2]
      · have h := of_decide_eq_false (ht.symm.trans h)
        refine (byteAt_spec st i).mono ?_
        rintro _ _ ⟨rfl, rfl⟩
        refine ⟨_, rfl, fun hp => ?_, fun hp => ?_⟩
        · have hp : cb st i = 40 := by omega
          have hlt := hcl (i' := i) (by omega)
          have hq : ¬ cb st (i + 1) = 41 := fun hq => h ⟨hp, hq⟩
          refine (ih (by omega) (by omega)).mono ?_
          rintro r F2 ⟨hr, l2⟩
          cases ha : altsP st.size (cb st) f (i + 1) with
          | none =>
            rw [ha] at hr
            obtain ⟨_, l, rfl, ⟨s, rfl, hs⟩, _⟩ := hr
            refine ⟨_, _, rfl, fun _ => bad ?_ l2, fun h => absurd h (by decide)⟩
            unfold atomP
            rw [if_neg hc, if_pos hp, if_neg hq, ha]
          | some p =>
            obtain ⟨t, m⟩ := p
            rw [ha] at hr
            obtain ⟨_, rfl, ⟨s, rfl, hs⟩⟩ := hr
            have hto := (parse_to (cb_ends st) f).2.2.2.2.1 _ _ _ ha
            refine ⟨_, _, rfl, fun h => absurd h (by omega), fun _ => ?_⟩
            refine (byteAt_spec st m).mono ?_
            rintro _ _ ⟨rfl, rfl⟩
            refine ⟨_, rfl, fun hz => bad ?_ l2, fun hz => good (t := t) (m := m + 1) ?_ ?_ ⟨s, rfl, hs⟩ l2⟩
            · unfold atomP
              rw [if_neg hc, if_pos hp, if_neg hq, ha]
              simp only
              rw [if_neg (by omega)]
            · unfold atomP
              rw [if_neg hc, if_pos hp, if_neg hq, ha]
              simp only
              rw [if_pos (by omega)]
            · rw [w64_eq (by omega) (by omega)]
              omega
        · have hp : ¬ cb st i = 40 := by omega
          refine (character_ref st hn i (by omega)).mono ?_
          rintro r _ ⟨hr, rfl⟩
          cases h1 : chrP (cb st) i with
          | none =>
            rw [h1] at hr
            obtain ⟨k, rfl⟩ := hr
            refine ⟨_, _, rfl, fun _ => bad ?_ (le_refl' _), fun h => absurd h (by decide)⟩
            unfold atomP
            rw [if_neg hc, if_neg hp, h1]
          | some p =>
            obtain ⟨b, m⟩ := p
            rw [h1] at hr
            simp only at hr
            subst hr
            refine ⟨_, _, rfl, fun h => absurd h (by omega), fun _ => ?_⟩
            refine (one_ref _ _ _).mono ?_
            rintro _ F2 ⟨⟨s, rfl, hs⟩, l2⟩
            refine ⟨_, rfl, good (t := .rng b b) (m := m) ?_ rfl ⟨s, rfl, hs⟩ l2⟩
            unfold atomP
            rw [if_neg hc, if_neg hp, h1]
    refine (byteAt_spec st i).mono ?_
    rintro _ _ ⟨rfl, rfl⟩
    refine ⟨_, rfl, fun hp => ?_, fun hp => j1 _ ?_⟩
    · refine (byteAt_spec st (i + 1)).mono ?_
      rintro _ _ ⟨rfl, rfl⟩
      refine ⟨_, rfl, j1 _ ?_⟩
      rw [Bool.eq_iff_iff]
      simp
      omega
    · symm
      simp
      omega
theorem rrepe_step {f : Nat} (ih : RReads st 94 0 (atomP st.size (cb st)) f) : RReads st 92 1 (repeP st.size (cb st)) (f + 1) := by
  intro F i hi hf
  refine c92 ?_
  unfold b92
  refine (ih hi (by omega)).mono ?_
  rintro r F1 ⟨hr, l1⟩
  cases ha : atomP st.size (cb st) f i with
  | none =>
    rw [ha] at hr
    obtain ⟨_, l, rfl, ⟨s, rfl, hs⟩, hl⟩ := hr
    have e : repeP st.size (cb st) (f + 1) i = none := by unfold repeP; rw [ha]
    refine ⟨_, _, rfl, fun _ s' x F' => s' = s ∧ x = -1 ∧ F' = F1, 0, ⟨rfl, rfl, rfl⟩, ?_⟩
    rintro _ _ _ _ ⟨rfl, rfl, rfl⟩
    unfold b92L1
    refine ⟨fun h => absurd h (by decide), fun _ => ?_⟩
    unfold b92j1
    rw [e]
    exact ⟨⟨_, l, rfl, ⟨_, rfl, hs⟩, hl⟩, l1⟩
  | some p =>
    obtain ⟨t, m⟩ := p
    rw [ha] at hr
    obtain ⟨_, rfl, ⟨s, rfl, hs⟩⟩ := hr
    have hto := (parse_to (cb_ends st) f).1 _ _ _ ha
    have hsz := (parse_size (cb_ends st) f).1 _ _ _ ha
    have e : repeP st.size (cb st) (f + 1) i = some (starsP (cb st) (st.size - m) t m) := by unfold repeP; rw [ha]
    rw [e]
    refine ⟨_, _, rfl, fun M s' x F' => ∃ t' j, x = ((j : Nat) : Int) ∧ RdS F' s' 5 (nflat (t'.nodes 0)) ∧ F.le F' ∧ M = st.size - j ∧ j ≤ st.size ∧ starsP (cb st) (st.size - j) t' j = starsP (cb st) (st.size - m) t m ∧ t'.size ≤ 2 * j, st.size - m, ⟨t, m, rfl, hs, l1, rfl, hto.2, rfl, by omega⟩, ?_⟩
    rintro _ s' _ F2 ⟨t', j, rfl, hs', l2, rfl, hj, hE, hsz'⟩
    unfold b92L1
    refine ⟨fun _ => ?_, fun h => absurd h (by omega)⟩
    refine (byteAt_spec st j).mono ?_
    rintro _ _ ⟨rfl, rfl⟩
    refine ⟨_, rfl, fun hc => ?_, fun hc => ?_⟩
    · have hc : cb st j = 42 := by omega
      have hlt : j < st.size := (cb_ends st).lt (by omega)
      refine (repeat_ref hs' (by rw [Pat.nodes_length]; omega)).mono ?_
      rintro _ F3 ⟨⟨s3, rfl, hs3⟩, l3⟩
      refine ⟨_, rfl, st.size - (j + 1), by omega, .rep t', j + 1, w64s (by omega), ?_, le_trans' l2 l3, rfl, hlt, ?_, ?_⟩
      · rw [Pat.nodes_length] at hs3
        have := t'.size_pos
        simp only [Pat.nodes, Nat.zero_add]
        rwa [show ((t'.size - 1 : Nat) : Int) = (t'.size : Int) - 1 by omega]
      · rw [← hE, show st.size - j = (st.size - (j + 1)) + 1 by omega]
        conv => rhs; unfold starsP
        rw [if_pos hc]
      · simp only [Pat.size]
        omega
    · have hc : ¬ cb st j = 42 := by omega
      have e : starsP (cb st) (st.size - j) t' j = (t', j) := by
        cases st.size - j with
        | zero => rfl
        | succ m =>
          unfold starsP
          rw [if_neg hc]
      unfold b92j1
      rw [← hE, e]
      exact ⟨⟨_, rfl, _, rfl, hs'⟩, l2⟩
theorem rseq_step {f : Nat} (ih : ∀ g, g ≤ f → RReads st 92 1 (repeP st.size (cb st)) g) : RReads st 80 2 (seqP st.size (cb st)) (f + 1) := by
  intro F i hi hf
  refine c80 ?_
  unfold b80
  refine (ih f (Nat.le_refl _) hi (by omega)).mono ?_
  rintro r F1 ⟨hr, l1⟩
  cases ha : repeP st.size (cb st) f i with
  | none =>
    rw [ha] at hr
    obtain ⟨_, l, rfl, ⟨s, rfl, hs⟩, hl⟩ := hr
    have e : seqP st.size (cb st) (f + 1) i = none := by unfold seqP; rw [ha]
    refine ⟨_, _, rfl, fun _ s' x F' => s' = s ∧ x = -1 ∧ F' = F1, 0, ⟨rfl, rfl, rfl⟩, ?_⟩
    rintro _ _ _ _ ⟨rfl, rfl, rfl⟩
    unfold b80L1
    refine ⟨fun h => absurd h (by decide), fun _ => ?_⟩
    unfold b80j1
    rw [e]
    exact ⟨⟨_, l, rfl, ⟨_, rfl, hs⟩, hl⟩, l1⟩
  | some p =>
    obtain ⟨t, m⟩ := p
    rw [ha] at hr
    obtain ⟨_, rfl, ⟨s, rfl, hs⟩⟩ := hr
    have hto := (parse_to (cb_ends st) f).2.1 _ _ _ ha
    have hsz := (parse_size (cb_ends st) f).2.1 _ _ _ ha
    have e : seqP st.size (cb st) (f + 1) i = seqL st.size (cb st) f t m := by unfold seqP; rw [ha]
    rw [e]
    refine ⟨_, _, rfl, fun M s' x F' => F.le F' ∧ ((∃ g u j, x = ((j : Nat) : Int) ∧ RdS F' s' 5 (nflat (u.nodes 0)) ∧ M = st.size - j + 1 ∧ j ≤ st.size ∧ g ≤ f ∧ 8 * (st.size + 1 - j) + 2 ≤ g ∧ seqL st.size (cb st) g u j = seqL st.size (cb st) f t m ∧ i < j ∧ u.size + 1 + 2 * i ≤ 2 * j) ∨
      (∃ l, x = -1 ∧ RdS F' s' 5 (nflat l) ∧ M = 0 ∧ seqL st.size (cb st) f t m = none ∧ l.length ≤ 2 * (st.size - i) + 2)), st.size - m + 1, ⟨l1, .inl ⟨f, t, m, rfl, hs, rfl, hto.2, Nat.le_refl _, by omega, rfl, by omega, hsz⟩⟩, ?_⟩
    rintro M s' x F2 ⟨l2, ⟨g, u, j, rfl, hs', rfl, hj, hg, hgn, hE, hij, husz⟩ | ⟨l, rfl, hs', rfl, hE, hl⟩⟩
    · unfold b80L1
      obtain ⟨g, rfl⟩ : ∃ g', g = g' + 1 := ⟨g - 1, by omega⟩
      have stop : ¬ (j < st.size ∧ cb st j ≠ 124 ∧ cb st j ≠ 41) → b80j1 s' (j : Int) (fun r F' => RfR st i (seqL st.size (cb st) f t m) r F' ∧ F.le F') F2 := fun hc => by
        rw [← hE]
        unfold seqL
        rw [if_neg hc]
        unfold b80j1
        exact ⟨⟨_, rfl, _, rfl, hs'⟩, l2⟩
      refine ⟨fun _ => ⟨fun hlt => ?_, fun hge => stop fun h => by omega⟩, fun h => absurd h (by omega)⟩
      have hlt : j < st.size := by omega
      refine ⟨by omega, by omega, by simpa using hlt, _, rfl, ?_⟩
      rw [cb_get rfl hlt]
      refine ⟨fun h124 => ⟨by omega, by omega, by simpa using hlt, _, rfl, ?_⟩, fun h124 => stop fun h => by omega⟩
      rw [cb_get rfl hlt]
      refine ⟨fun h41 => ?_, fun h41 => stop fun h => by omega⟩
      have hc : j < st.size ∧ cb st j ≠ 124 ∧ cb st j ≠ 41 := ⟨hlt, by omega, by omega⟩
      refine (ih g (by omega) hj (by omega)).mono ?_
      rintro r F3 ⟨hr, l3⟩
      cases h4 : repeP st.size (cb st) g j with
      | none =>
        rw [h4] at hr
        obtain ⟨_, l, rfl, ⟨s4, rfl, hs4⟩, hl⟩ := hr
        have hE2 : seqL st.size (cb st) f t m = none := by rw [← hE]; unfold seqL; rw [if_pos hc, h4]
        refine ⟨_, _, rfl, ?_⟩
        refine (join_ref 2 (hs'.le l3) hs4 (by rw [Pat.nodes_length]; omega) (by omega)).mono ?_
        rintro _ F4 ⟨⟨s5, rfl, hs5⟩, l4⟩
        exact ⟨_, rfl, 0, by omega, le_trans' (le_trans' l2 l3) l4, .inr ⟨_, rfl, hs5, rfl, hE2, by rw [joinL_length, Pat.nodes_length]; omega⟩⟩
      | some p =>
        obtain ⟨x, k⟩ := p
        rw [h4] at hr
        obtain ⟨_, rfl, ⟨s4, rfl, hs4⟩⟩ := hr
        have hs2 := (parse_size (cb_ends st) g).2.1 _ _ _ h4
        have hto2 := (parse_to (cb_ends st) g).2.1 _ _ _ h4
        have hE2 : seqL st.size (cb st) g (.seq u x) k = seqL st.size (cb st) f t m := by
          rw [← hE]
          conv => rhs; unfold seqL
          rw [if_pos hc, h4]
        refine ⟨_, _, rfl, ?_⟩
        refine (join_ref 2 (hs'.le l3) hs4 (by rw [Pat.nodes_length]; omega) (by rw [Pat.nodes_length]; omega)).mono ?_
        rintro _ F4 ⟨⟨s5, rfl, hs5⟩, l4⟩
        rw [joinL_seq u x (by omega)] at hs5
        refine ⟨_, rfl, st.size - k + 1, by omega, le_trans' (le_trans' l2 l3) l4, .inl ⟨g, .seq u x, k, rfl, hs5, rfl, hto2.2, by omega, by omega, hE2, by omega, ?_⟩⟩
        simp only [Pat.size]
        omega
    · unfold b80L1
      refine ⟨fun h => absurd h (by decide), fun _ => ?_⟩
      unfold b80j1
      rw [hE]
      exact ⟨⟨_, l, rfl, ⟨_, rfl, hs'⟩, hl⟩, l2⟩
theorem ralts_step {f : Nat} (ih : ∀ g, g ≤ f → RReads st 80 2 (seqP st.size (cb st)) g) : RReads st 56 3 (altsP st.size (cb st)) (f + 1) := by
  intro F i hi hf
  refine c56 ?_
  unfold b56
  refine (ih f (Nat.le_refl _) hi (by omega)).mono ?_
  rintro r F1 ⟨hr, l1⟩
  cases ha : seqP st.size (cb st) f i with
  | none =>
    rw [ha] at hr
    obtain ⟨_, l, rfl, ⟨s, rfl, hs⟩, hl⟩ := hr
    have e : altsP st.size (cb st) (f + 1) i = none := by unfold altsP; rw [ha]
    refine ⟨_, _, rfl, fun _ s' x F' => s' = s ∧ x = -1 ∧ F' = F1, 0, ⟨rfl, rfl, rfl⟩, ?_⟩
    rintro _ _ _ _ ⟨rfl, rfl, rfl⟩
    unfold b56L1
    refine ⟨fun h => absurd h (by decide), fun _ => ?_⟩
    unfold b56j1
    rw [e]
    exact ⟨⟨_, l, rfl, ⟨_, rfl, hs⟩, hl⟩, l1⟩
  | some p =>
    obtain ⟨t, m⟩ := p
    rw [ha] at hr
    obtain ⟨_, rfl, ⟨s, rfl, hs⟩⟩ := hr
    have hto := (parse_to (cb_ends st) f).2.2.1 _ _ _ ha
    have hsz := (parse_size (cb_ends st) f).2.2.1 _ _ _ ha
    have e : altsP st.size (cb st) (f + 1) i = altL st.size (cb st) f t m := by unfold altsP; rw [ha]
    rw [e]
    refine ⟨_, _, rfl, fun M s' x F' => F.le F' ∧ ((∃ g u j, x = ((j : Nat) : Int) ∧ RdS F' s' 5 (nflat (u.nodes 0)) ∧ M = st.size - j + 1 ∧ j ≤ st.size ∧ g ≤ f ∧ 8 * (st.size + 1 - j) + 3 ≤ g ∧ altL st.size (cb st) g u j = altL st.size (cb st) f t m ∧ i < j ∧ u.size + 1 + 2 * i ≤ 2 * j) ∨
      (∃ l, x = -1 ∧ RdS F' s' 5 (nflat l) ∧ M = 0 ∧ altL st.size (cb st) f t m = none ∧ l.length ≤ 2 * (st.size - i) + 2)), st.size - m + 1, ⟨l1, .inl ⟨f, t, m, rfl, hs, rfl, hto.2, Nat.le_refl _, by omega, rfl, by omega, hsz⟩⟩, ?_⟩
    rintro M s' x F2 ⟨l2, ⟨g, u, j, rfl, hs', rfl, hj, hg, hgn, hE, hij, husz⟩ | ⟨l, rfl, hs', rfl, hE, hl⟩⟩
    · unfold b56L1
      obtain ⟨g, rfl⟩ : ∃ g', g = g' + 1 := ⟨g - 1, by omega⟩
      refine ⟨fun _ => ?_, fun h => absurd h (by omega)⟩
      refine (byteAt_spec st j).mono ?_
      rintro _ _ ⟨rfl, rfl⟩
      refine ⟨_, rfl, fun hc => ?_, fun hc => ?_⟩
      · have hc : cb st j = 124 := by omega
        have hlt : j < st.size := (cb_ends st).lt (by omega)
        rw [w64s (by omega)]
        refine (ih g (by omega) (by omega) (by omega)).mono ?_
        rintro r F3 ⟨hr, l3⟩
        cases h4 : seqP st.size (cb st) g (j + 1) with
        | none =>
          rw [h4] at hr
          obtain ⟨_, l, rfl, ⟨s4, rfl, hs4⟩, hl⟩ := hr
          have hE2 : altL st.size (cb st) f t m = none := by rw [← hE]; unfold altL; rw [if_pos hc, h4]
          refine ⟨_, _, rfl, ?_⟩
          refine (join_ref 3 (hs'.le l3) hs4 (by rw [Pat.nodes_length]; omega) (by omega)).mono ?_
          rintro _ F4 ⟨⟨s5, rfl, hs5⟩, l4⟩
          exact ⟨_, rfl, 0, by omega, le_trans' (le_trans' l2 l3) l4, .inr ⟨_, rfl, hs5, rfl, hE2, by rw [joinL_length, Pat.nodes_length]; omega⟩⟩
        | some p =>
          obtain ⟨x, k⟩ := p
          rw [h4] at hr
          obtain ⟨_, rfl, ⟨s4, rfl, hs4⟩⟩ := hr
          have hs2 := (parse_size (cb_ends st) g).2.2.1 _ _ _ h4
          have hto2 := (parse_to (cb_ends st) g).2.2.1 _ _ _ h4
          have hE2 : altL st.size (cb st) g (.alt u x) k = altL st.size (cb st) f t m := by
            rw [← hE]
            conv => rhs; unfold altL
            rw [if_pos hc, h4]
          refine ⟨_, _, rfl, ?_⟩
          refine (join_ref 3 (hs'.le l3) hs4 (by rw [Pat.nodes_length]; omega) (by rw [Pat.nodes_length]; omega)).mono ?_
          rintro _ F4 ⟨⟨s5, rfl, hs5⟩, l4⟩
          rw [joinL_alt u x (by omega)] at hs5
          refine ⟨_, rfl, st.size - k + 1, by omega, le_trans' (le_trans' l2 l3) l4, .inl ⟨g, .alt u x, k, rfl, hs5, rfl, hto2.2, by omega, by omega, hE2, by omega, ?_⟩⟩
          simp only [Pat.size]
          omega
      · have hc : ¬ cb st j = 124 := by omega
        unfold b56j1
        rw [← hE]
        unfold altL
        rw [if_neg hc]
        exact ⟨⟨_, rfl, _, rfl, hs'⟩, l2⟩
    · unfold b56L1
      refine ⟨fun h => absurd h (by decide), fun _ => ?_⟩
      unfold b56j1
      rw [hE]
      exact ⟨⟨_, l, rfl, ⟨_, rfl, hs'⟩, hl⟩, l2⟩
theorem rreads_all (f : Nat) : RReads st 92 1 (repeP st.size (cb st)) f ∧ RReads st 80 2 (seqP st.size (cb st)) f ∧ RReads st 56 3 (altsP st.size (cb st)) f := by
  have zero : ∀ {f need p}, 0 < need → RReads st f need p 0 := fun hneed F i hi hf => by omega
  have one : ∀ {f need p}, RReads st f need p 1 := fun {f need p} F i hi hf => by omega
  induction f using Nat.strongRecOn with
  | _ f ih =>
    match f with
    | 0 => exact ⟨zero (by omega), zero (by omega), zero (by omega)⟩
    | 1 => exact ⟨one, one, one⟩
    | f + 2 => exact ⟨rrepe_step hn (ratom_step hn (ih f (by omega)).2.2), rseq_step hn fun g hg => (ih g (by omega)).1, ralts_step hn fun g hg => (ih g (by omega)).2.1⟩
end
theorem parse_ref (F : PH) (st : ByteArray) : Spec prog 26 #[.string st] F fun r F' => PatR F' r (parseR st) ∧ F.le F' := by
  refine c26 ?_
  unfold b26
  refine ⟨fun h => ?_, fun h => ?_⟩
  · have e : parseR st = ([], 2) := by unfold parseR; rw [if_pos (by omega)]
    rw [e]
    exact ⟨⟨_, rfl, PatV.nil F⟩, le_refl' F⟩
  have e0 : parseR st = match parseT st with | some t => if 512 < t.size then ([], 2) else (t.nodes 0, 0) | none => ([], 40) := by
    unfold parseR
    rw [if_neg (by omega)]
    cases parseT st <;> rfl
  refine ((rreads_all (st := st) (by omega) (parseF st)).2.2 (i := 0) (Nat.zero_le _) (by unfold parseF; omega)).mono ?_
  rintro r F1 ⟨hr, l1⟩
  cases he : altsP st.size (cb st) (parseF st) 0 with
  | none =>
    rw [he] at hr
    obtain ⟨_, l, rfl, ⟨s, rfl, hs⟩, hl⟩ := hr
    have hT : parseT st = none := by unfold parseT; rw [he]
    rw [e0, hT]
    exact ⟨_, _, rfl, fun _ => ⟨⟨_, rfl, PatV.nil _⟩, l1⟩, fun h => absurd (by omega) h⟩
  | some x =>
    obtain ⟨t, m⟩ := x
    rw [he] at hr
    obtain ⟨_, rfl, ⟨s, rfl, hs⟩⟩ := hr
    have hlen := hs.nlen
    rw [Pat.nodes_length] at hlen
    refine ⟨_, _, rfl, fun hm => ?_, fun hm => ?_⟩
    · have hT : parseT st = none := by
        unfold parseT
        rw [he]
        simp only
        rw [if_neg (by omega)]
      rw [e0, hT]
      exact ⟨⟨_, rfl, PatV.nil _⟩, l1⟩
    · have hT : parseT st = some t := by
        unfold parseT
        rw [he]
        simp only
        rw [if_pos (by omega)]
      rw [e0, hT]
      refine ⟨fun hl => ⟨?_, l1⟩, fun hl => ⟨?_, l1⟩⟩
      · simp only
        rw [if_pos (by omega)]
        exact ⟨_, rfl, PatV.nil _⟩
      · simp only
        rw [if_neg (by omega)]
        exact ⟨_, rfl, s, rfl, hs⟩
end Go.Proofs.YtnjcgpihfmklfaaDoor
