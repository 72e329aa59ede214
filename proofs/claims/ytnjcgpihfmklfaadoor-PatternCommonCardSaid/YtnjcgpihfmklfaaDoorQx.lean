/-
  Longest and Matches.
-/
import Derived.Test.YtnjcgpihfmklfaaDoorQw
namespace Go.Proofs.YtnjcgpihfmklfaaDoor
open Go Go.Proofs.Tryd
set_option maxRecDepth 10000

theorem bs_extract (s : ByteArray) (a b : Nat) : bs (s.extract a b) = ((bs s).drop a).take (b - a) := by
  unfold bs
  rw [ByteArray.data_extract, Array.toList_extract, List.extract_eq_take_drop, List.map_take, List.map_drop]
/-- b is the greatest number from 1 to n with A, or 0. -/
structure Best (A : Nat → Prop) (n b : Nat) : Prop where
  le : b ≤ n
  is : b = 0 ∨ A b
  no : ∀ m, b < m → m ≤ n → ¬ A m
theorem Best.uniq {A : Nat → Prop} {n b c : Nat} (hb : Best A n b) (hc : Best A n c) : b = c := by
  rcases Nat.lt_trichotomy b c with h | h | h
  · rcases hc.is with e | e
    · omega
    · exact absurd e (hb.no c h hc.le)
  · exact h
  · rcases hb.is with e | e
    · omega
    · exact absurd e (hc.no b h hb.le)
section
variable {F : PH} {l : List Nd} {s : Sl}
theorem cb44' : callableB prog 44 = true := by kernel_rfl
theorem cb53' : callableB prog 53 = true := by kernel_rfl
/-- The strings that a list of nodes matches. -/
def LgL (l : List Nd) (w : List Nat) : Prop := Lg (treeL l).pat w
theorem longest_spec (hT : Tab F) (hs : RdS F s 5 (nflat l)) (st : ByteArray) (hst : st.size ≤ 1000000000) (at_ : Int) : Spec prog 17 #[s.v, .string st, vi at_] F fun r F' =>
    ((¬ (chkP l = 0 ∧ 0 ≤ at_ ∧ at_ ≤ st.size) ∧ r = .tuple #[vi 0, .bool false]) ∨
      (chkP l = 0 ∧ 0 ≤ at_ ∧ at_ ≤ st.size ∧ ∃ b, Best (fun n => LgL l (((bs st).drop at_.toNat).take n)) (st.size - at_.toNat) b ∧ r = .tuple #[vi b, .bool (decide (0 < b))])) ∧ F.le F' := by
  refine c17 ?_
  unfold b17
  refine (check_spec hs).mono ?_
  rintro _ F1 ⟨rfl, l1⟩
  refine ⟨_, rfl, fun h => ⟨.inl ⟨fun hh => h hh.1, rfl⟩, l1⟩, fun h => ⟨fun h2 => ⟨.inl ⟨fun hh => by omega, rfl⟩, l1⟩, fun h2 => ⟨fun h3 => ⟨.inl ⟨fun hh => by omega, rfl⟩, l1⟩, fun h3 => ?_⟩⟩⟩
  have h0 : chkP l = 0 := by omega
  obtain ⟨hG, hl⟩ := chkP_zero h0
  obtain ⟨ns, ht⟩ := treeL_spec hG
  obtain ⟨a, rfl⟩ := Int.eq_ofNat_of_zero_le (by omega : 0 ≤ at_)
  have ha : a ≤ st.size := by omega
  have h := Lo.start F1
  refine h.new _ _ fun b8 F2 h => ?_
  refine Lo.put1 [] [] (b := b8) (i := 0) (w0 := #[vi 0]) (w := #[vi 0]) (e := 3) h (by simp) rfl fun F3 h => ?_
  replace h : Lo F1 F3 [(b8, #[vi 0], 3)] := h
  refine ⟨by omega, by rw [Int.toNat_natCast]; exact ha, Nat.le_refl _, ?_⟩
  refine (h.call (compile_spec (hT.le l1) hG hl (hs.le l1))).mono ?_
  rintro _ F4 ⟨G, ⟨⟨bm, rfl, hM⟩, l2⟩, h⟩
  refine ⟨_, rfl, ?_⟩
  rw [Int.toNat_natCast]
  have hbs : bs (st.extract a st.size) = (bs st).drop a := by
    rw [bs_extract, List.take_of_length_le]
    rw [List.length_drop, bs_length]
    omega
  have hsz : (st.extract a st.size).size = st.size - a := by rw [← bs_length, hbs, List.length_drop, bs_length]
  refine (run_spec (bm := bm) (k := 44) (cap := #[pa b8]) (Inv := fun n F' => ∃ b, Lo G F' [(b8, #[vi ((b : Nat) : Int)], 3)] ∧ Best (fun n => LgL l (((bs st).drop a).take n)) n b) cb44' hl hG ht (by rw [hsz]; omega)
    (fun n F' ⟨b, hL, _⟩ => ⟨(hT.le (le_trans' l1 l2)).le hL.le, hM.le hL.le⟩) ?_ ⟨0, h, Nat.zero_le _, .inl rfl, fun m h1 h2 => by omega⟩).mono ?_
  · rintro n F' q hn hq ⟨b, hL, hB⟩
    rw [hbs] at hq
    show Spec prog 44 #[vi ((n + 1 : Nat) : Int), .bool q, pa b8] F' _
    refine c44 ?_
    unfold b44
    refine ⟨fun hq1 => ⟨_, rfl, ?_⟩, fun hq0 => ⟨rfl, b, hL, ?_⟩⟩
    · refine Lo.put1 [] [] (b := b8) (i := 0) (w0 := #[vi ((b : Nat) : Int)]) (w := #[vi ((n + 1 : Nat) : Int)]) (e := 3) hL (by simp) rfl fun F'' h' => ?_
      exact ⟨rfl, n + 1, h', Nat.le_refl _, .inr (hq.1 hq1), fun m h1 h2 => by omega⟩
    · refine ⟨by have := hB.le; omega, hB.is, fun m h1 h2 => ?_⟩
      by_cases e : m = n + 1
      · subst e
        exact fun hA => by rw [hq.2 hA] at hq0; cases hq0
      · exact hB.no m h1 (by omega)
  · rintro _ F5 ⟨rfl, n, G', hn, ⟨b, hL, hB⟩, l5, hend⟩
    have cb : F5.cell (Addr.mk b8 0 none) = some (vi ((b : Nat) : Int)) := le_cell l5 (by rw [hL.cell (b := b8) (w := #[vi ((b : Nat) : Int)]) (e := 3) (by simp)]; rfl)
    refine ⟨rfl, _, cb, _, cb, .inr ⟨h0, by omega, by omega, b, ?_, ?_⟩, le_trans' l1 (le_trans' l2 (le_trans' hL.le l5))⟩
    · rw [hsz] at hn hend
      rw [hbs] at hend
      rcases hend with e | e
      · rw [← e]
        exact hB
      · refine ⟨Nat.le_trans hB.le hn, hB.is, fun m h1 h2 => ?_⟩
        by_cases hmn : m ≤ n
        · exact hB.no m h1 hmn
        · exact e m (by omega) h2
    · have : decide ((0 : Int) < ((b : Nat) : Int)) = decide (0 < b) := by rw [Bool.eq_iff_iff]; simp
      rw [this]
theorem matches_spec (hT : Tab F) (hs : RdS F s 5 (nflat l)) (st : ByteArray) (hst : st.size ≤ 1000000000) : Spec prog 23 #[s.v, .string st] F fun r F' => (∃ q : Bool, r = .bool q ∧ (q = true ↔ chkP l = 0 ∧ LgL l (bs st))) ∧ F.le F' := by
  refine c23 ?_
  unfold b23
  have h := Lo.start F
  refine h.new _ _ fun b3 F1 h => ?_
  refine (h.call (check_spec hs)).mono ?_
  rintro _ F2 ⟨G1, ⟨rfl, l1⟩, h⟩
  refine ⟨_, rfl, fun hc => ⟨⟨false, rfl, fun h => (by cases h), fun h => absurd h.1 hc⟩, le_trans' l1 h.le⟩, fun hc => ?_⟩
  have h0 : chkP l = 0 := by omega
  obtain ⟨hG, hl⟩ := chkP_zero h0
  obtain ⟨ns, ht⟩ := treeL_spec hG
  refine (h.call (compile_spec (hT.le l1) hG hl (hs.le l1))).mono ?_
  rintro _ F3 ⟨G, ⟨⟨bm, rfl, hM⟩, l2⟩, h⟩
  have c3 : F3.cell (Addr.mk b3 0 none) = some (.string st) := by rw [h.cell (b := b3) (w := #[.string st]) (e := 9) (by simp)]; rfl
  refine ⟨_, rfl, _, c3, ?_⟩
  have j1 : ∀ (b6 : Nat) (mt : Bool) (F4 : PH), Lo G F4 [(b6, #[.bool mt], 4), (b3, #[.string st], 9)] → (mt = true ↔ st.size = 0 ∧ (treeL l).nul = true) →
      b23j1 b3 (some ⟨bm, 0, none⟩) (some ⟨b6, 0, none⟩) (fun r F' => (∃ q : Bool, r = .bool q ∧ (q = true ↔ chkP l = 0 ∧ LgL l (bs st))) ∧ F.le F') F4 := fun b6 mt F4 h hmt => by
    unfold b23j1
    refine ⟨_, by rw [h.cell (b := b3) (w := #[.string st]) (e := 9) (by simp)]; rfl, ?_⟩
    refine (run_spec (bm := bm) (k := 53) (cap := #[pa b3, pa b6]) (Inv := fun n F' => ∃ mt : Bool, Lo G F' [(b6, #[.bool mt], 4), (b3, #[.string st], 9)] ∧ (n = 0 → (mt = true ↔ st.size = 0 ∧ (treeL l).nul = true)) ∧ (0 < n → (mt = true ↔ n = st.size ∧ LgL l ((bs st).take n)))) cb53' hl hG ht (by omega)
      (fun n F' ⟨b, hL, _⟩ => ⟨(hT.le (le_trans' l1 l2)).le hL.le, hM.le hL.le⟩) ?_ ⟨mt, h, fun _ => hmt, fun h => absurd h (by omega)⟩).mono ?_
    · rintro n F' q hn hq ⟨mt, hL, _, _⟩
      show Spec prog 53 #[vi ((n + 1 : Nat) : Int), .bool q, pa b3, pa b6] F' _
      refine c53 ?_
      unfold b53
      refine ⟨_, rfl, _, by rw [hL.cell (b := b3) (w := #[.string st]) (e := 9) (by simp)]; rfl, fun he => ⟨_, rfl, ?_⟩, fun he => ⟨_, rfl, ?_⟩⟩
      · refine Lo.put1 [] [(b3, #[.string st], 9)] (b := b6) (i := 0) (w0 := #[.bool mt]) (w := #[.bool q]) (e := 4) hL (by simp) rfl fun F'' h' => ?_
        exact ⟨rfl, q, h', fun h => by omega, fun _ => ⟨fun h => ⟨by omega, hq.1 h⟩, fun h => hq.2 h.2⟩⟩
      · refine Lo.put1 [] [(b3, #[.string st], 9)] (b := b6) (i := 0) (w0 := #[.bool mt]) (w := #[.bool false]) (e := 4) hL (by simp) rfl fun F'' h' => ?_
        exact ⟨rfl, false, h', fun h => by omega, fun _ => ⟨fun h => (by cases h), fun h => by omega⟩⟩
    · rintro _ F5 ⟨rfl, n, G', hn, ⟨mt, hL, hz, hp⟩, l5, hend⟩
      refine ⟨rfl, _, rfl, mt, le_cell l5 (by rw [hL.cell (b := b6) (w := #[.bool mt]) (e := 4) (by simp)]; rfl), ⟨mt, rfl, ?_⟩, le_trans' l1 (le_trans' l2 (le_trans' hL.le l5))⟩
      have hall : (bs st).take st.size = bs st := List.take_of_length_le (by rw [bs_length]; exact Nat.le_refl _)
      have hnil : st.size = 0 → bs st = [] := fun h => List.length_eq_zero_iff.1 (by rw [bs_length]; exact h)
      have hnul : (treeL l).nul = true ↔ LgL l [] := (treeL l).nul_iff
      rcases Nat.eq_zero_or_pos n with e | e
      · subst e
        rw [hz rfl]
        constructor
        · rintro ⟨h1, h2⟩
          exact ⟨h0, by rw [hnil h1]; exact hnul.1 h2⟩
        · rintro ⟨_, h2⟩
          rcases hend with he | he
          · exact ⟨he.symm, hnul.2 (by rw [← hnil he.symm]; exact h2)⟩
          · rcases Nat.eq_zero_or_pos st.size with h1 | h1
            · exact ⟨h1, hnul.2 (by rw [← hnil h1]; exact h2)⟩
            · exact absurd (by rw [hall]; exact h2) (he st.size h1 (Nat.le_refl _))
      · rw [hp e]
        constructor
        · rintro ⟨h1, h2⟩
          exact ⟨h0, by rw [h1, hall] at h2; exact h2⟩
        · rintro ⟨_, h2⟩
          rcases hend with he | he
          · exact ⟨he, by rw [he, hall]; exact h2⟩
          · by_cases h1 : n = st.size
            · exact ⟨h1, by rw [h1, hall]; exact h2⟩
            · exact absurd (by rw [hall]; exact h2) (he st.size (by omega) (Nat.le_refl _))
  have hemp : (st.toList == (ByteArray.mk #[]).toList) = decide (st.size = 0) := by
    rw [beq_bs]
    rw [Bool.eq_iff_iff, decide_eq_true_eq, decide_eq_true_eq, ← bs_length st]
    constructor
    · intro h; rw [h]; rfl
    · intro h; exact List.length_eq_zero_iff.1 h
  rw [hemp]
  refine ⟨fun he => ?_, fun he => ?_⟩
  · have he := of_decide_eq_true he
    obtain ⟨s', bf, qm, _, _⟩ := (hM.le h.le).ex
    refine ⟨_, rfl, (treeL l).nul, by rw [add_off, cell_eq qm]; rfl, ?_⟩
    refine h.new _ _ fun b6 F4 h => ?_
    refine Lo.put1 [] [(b3, #[.string st], 9)] (b := b6) (i := 0) (w0 := #[.bool false]) (w := #[.bool (treeL l).nul]) (e := 4) h (by simp) rfl fun F5 h => ?_
    exact j1 b6 _ F5 h ⟨fun h => ⟨he, h⟩, fun h => h.2⟩
  · have he := of_decide_eq_false he
    refine h.new _ _ fun b6 F4 h => ?_
    refine Lo.put1 [] [(b3, #[.string st], 9)] (b := b6) (i := 0) (w0 := #[.bool false]) (w := #[.bool false]) (e := 4) h (by simp) rfl fun F5 h => ?_
    exact j1 b6 _ F5 h ⟨fun h => (by cases h), fun h => absurd h.1 he⟩
end
end Go.Proofs.YtnjcgpihfmklfaaDoor
