/-
  The links of a machine the other way round.
-/
import Derived.Test.YtnjcgpihfmklfaaDoorSa
namespace Go.Proofs.YtnjcgpihfmklfaaDoor
open Go Go.Proofs.Tryd
set_option maxRecDepth 10000

theorem plA_set (P : Nat → Bool) {i : Nat} (hi : i < 512) : (plA P).toList.set (i / 64) (u64v (wd (fun j => P j || decide (j = i)) (i / 64))) = (plA fun j => P j || decide (j = i)).toList := by
  have eo : ∀ k, k ≠ i / 64 → k < 8 → wd P k = wd (fun j => P j || decide (j = i)) k := fun k hk _ => bt_congr fun j hj => by
    show P (64 * k + j) = (P (64 * k + j) || decide (64 * k + j = i))
    rw [show decide (64 * k + j = i) = false by simp; omega, Bool.or_false]
  apply List.ext_getElem?
  intro k
  rw [List.getElem?_set]
  by_cases hk8 : k < 8
  · have g1 : ∀ (Q : Nat → Bool), (plA Q).toList[k]? = some (u64v (wd Q k)) := fun Q => by rw [Array.getElem?_toList]; exact plA_get Q hk8
    rw [g1, g1]
    by_cases hik : i / 64 = k
    · rw [if_pos hik, if_pos (by show i / 64 < 8; omega), hik]
    · rw [if_neg hik, eo k (fun e => hik e.symm) hk8]
  · have g2 : ∀ (Q : Nat → Bool), (plA Q).toList[k]? = none := fun Q => List.getElem?_eq_none (by show 8 ≤ k; omega)
    rw [g2, g2, if_neg (by omega)]
section
variable {F : PH}
theorem addS_spec {b : Nat} {e : TypeId} {pre post : List Value} {P : Nat → Bool} {i : Nat} (hi : i < 512) (h : SetB F b e pre P post) :
    Spec prog 70 #[.pointer (some ⟨b, pre.length, none⟩), vi i] F fun r F' => r = .tuple #[] ∧ F' = F.set b (.cells (pre ++ (plA fun j => P j || decide (j = i)).toList ++ post).toArray e) := by
  refine c70 ?_
  unfold b70
  have e1 : IntKind.i64.wrap (Int.tdiv (i : Int) 64) = ((i / 64 : Nat) : Int) := by rw [show Int.tdiv (i : Int) 64 = ((i / 64 : Nat) : Int) from rfl, w64_eq (by omega) (by omega)]
  have e2 : Int.tmod (i : Int) 64 = ((i % 64 : Nat) : Int) := rfl
  rw [e1, e2]
  have ek : Int.toNat ((i / 64 : Nat) : Int) * 1 = i / 64 := by rw [Int.toNat_natCast, Nat.mul_one]
  rw [ek]
  have h8 : i / 64 < 8 := by omega
  have hc : F.cell ((Addr.mk b pre.length none).add (i / 64)) = some (u64v (wd P (i / 64))) := by
    have := h.row (i / 64) (by exact h8)
    rw [this, ← plA_get P h8]
    exact (Array.getElem?_eq_getElem _).symm
  have hsz : pre.length + i / 64 < (pre ++ (plA P).toList ++ post).toArray.size := by
    rw [List.size_toArray, List.length_append, List.length_append]
    have : (plA P).toList.length = 8 := rfl
    omega
  refine ⟨_, rfl, by omega, by omega, _, hc, by omega, by omega, by omega, ?_⟩
  refine st1' (b := b) (o := pre.length + i / 64) (by rw [add_off]) h hsz ⟨rfl, ?_⟩
  have hp : 2 ^ (i % 64) < 18446744073709551616 := by
    have : 2 ^ (i % 64) < 2 ^ 64 := Nat.pow_lt_pow_right (by omega) (by omega)
    exact this
  have ep : IntKind.u64.wrap ((1 : Int) * 2 ^ (min (Int.toNat ((i % 64 : Nat) : Int)) (IntKind.u64).bits)) = ((2 ^ (i % 64) : Nat) : Int) := by
    have hm : min (Int.toNat ((i % 64 : Nat) : Int)) (IntKind.u64).bits = i % 64 := by
      rw [Int.toNat_natCast]
      show min (i % 64) 64 = i % 64
      omega
    rw [hm]
    have : (1 : Int) * 2 ^ (i % 64) = ((2 ^ (i % 64) : Nat) : Int) := by simp
    rw [this]
    exact wu64_eq (Int.natCast_nonneg _) (Int.ofNat_lt.2 hp)
  rw [ep, u64_or (wd_lt P _) hp]
  have ew : wd P (i / 64) ||| 2 ^ (i % 64) = wd (fun j => P j || decide (j = i)) (i / 64) := by
    refine bt_eq (Nat.or_lt_two_pow (wd_lt P _) hp) fun j hj => ?_
    rw [Nat.testBit_or, wd_bit P _ hj, Nat.testBit_two_pow]
    congr 1
    rw [Bool.eq_iff_iff]
    simp
    omega
  rw [ew, ← plA_set P hi]
  congr 2
  apply Array.ext'
  rw [Array.toList_setIfInBounds]
  show (pre ++ (plA P).toList ++ post).set (pre.length + i / 64) _ = _
  rw [List.append_assoc, List.set_append, if_neg (by omega), Nat.add_sub_cancel_left, List.set_append, if_pos (by exact h8)]
  exact (List.append_assoc _ _ _).symm
theorem flat_add {bf n k i : Nat} {R : Nat → Nat → Bool} (hk : k < n) (hi : i < 512) (h : F bf = some (.cells (flatR n R).toArray 76)) :
    Spec prog 70 #[.pointer (some ((Addr.mk bf 0 none).add (k * 8))), vi i] F fun r F' => r = .tuple #[] ∧ F' = F.set bf (.cells (flatR n (fun k' j => R k' j || (decide (k' = k) && decide (j = i)))).toArray 76) := by
  obtain ⟨pre, post, hpre, hsp, hup⟩ := flatR_split hk R
  have hs : SetB F bf 76 pre (R k) post := by unfold SetB; rw [← hsp]; exact h
  have ea : (Addr.mk bf 0 none).add (k * 8) = ⟨bf, pre.length, none⟩ := by rw [add_off, Nat.zero_add, hpre]
  rw [ea]
  refine (addS_spec hi hs).mono ?_
  rintro _ F' ⟨rfl, rfl⟩
  refine ⟨rfl, ?_⟩
  rw [hup (fun k' j => R k' j || (decide (k' = k) && decide (j = i))) fun j hj => by funext x; simp [hj]]
  have : (fun j => R k j || (decide (k = k) && decide (j = i))) = fun j => R k j || decide (j = i) := by funext j; simp
  rw [this]

/-- The links from the first i places, and those from place i to the first m ones, turned round. -/
noncomputable def bwd (t : Lt) (i m : Nat) : Nat → Nat → Bool := fun k j => (decide (j < i) && foB t j k) || (decide (j = i) && decide (k < m) && foB t i k)
theorem bwd_skip {t : Lt} {i m : Nat} (h : foB t i m = false) : bwd t i (m + 1) = bwd t i m := by
  funext k j
  unfold bwd
  by_cases hk : k = m
  · subst hk; simp [h]
  · rw [show decide (k < m + 1) = decide (k < m) by rw [Bool.eq_iff_iff]; simp; omega]
theorem bwd_add {t : Lt} {i m : Nat} (h : foB t i m = true) : bwd t i (m + 1) = fun k j => bwd t i m k j || (decide (k = m) && decide (j = i)) := by
  funext k j
  unfold bwd
  by_cases hk : k = m
  · subst hk
    simp [h]
  · rw [show decide (k < m + 1) = decide (k < m) by rw [Bool.eq_iff_iff]; simp; omega]
    simp [hk]
theorem bwd_next {t : Lt} {i n : Nat} (hn : n ≤ 512) : flatR n (bwd t i 512) = flatR n (bwd t (i + 1) 0) := flatR_congr fun k hk => by
  funext j
  unfold bwd
  rw [show decide (k < 512) = true by simp; omega]
  by_cases hj : j = i
  · subst hj; simp
  · rw [show decide (j < i + 1) = decide (j < i) by rw [Bool.eq_iff_iff]; simp; omega]
    simp [hj]
theorem bwd_zero {t : Lt} : bwd t 0 0 = noR := by funext k j; simp [bwd, noR]
theorem bwd_all {t : Lt} {n : Nat} (hf : ∀ i j, t.fol i j → i < n) : bwd t n 0 = fun k j => foB t j k := by
  funext k j
  unfold bwd
  by_cases hj : j < n
  · simp [hj]
  · have : foB t j k = false := by
      rw [← Bool.not_eq_true, foB_iff]
      exact fun h => hj (hf j k h)
    simp [hj, this]
theorem cb83' : callableB prog 83 = true := by kernel_rfl
theorem before_spec (hT : Tab F) {bm : Nat} {l : List Nd} {t : Lt} (hM : Mch F bm l t) (hl : l.length ≤ 512) (hf : ∀ i j, t.fol i j → i < l.length ∧ j < l.length) :
    Spec prog 82 #[pa bm] F fun r F' => (∃ b, r = Sl.v ⟨some ⟨b, 0, none⟩, l.length, l.length⟩ ∧ F' b = some (.cells (flatR l.length (fun k j => foB t j k)).toArray 76)) ∧ F.le F' := by
  refine c82 ?_
  unfold b82
  obtain ⟨s, bf, qm, hs, qf⟩ := hM.ex
  have hlen := hs.nlen
  have cm : ∀ {F' : PH}, F.le F' → F'.cell (Addr.mk bm 0 none) = some s.v := fun hle => le_cell hle (by rw [cell_eq qm]; rfl)
  have cf : ∀ {F' : PH}, F.le F' → F'.cell ((Addr.mk bm 0 none).add 17) = some (Sl.v ⟨some ⟨bf, 0, none⟩, l.length, l.length⟩) := fun hle => le_cell hle (by rw [add_off, Nat.zero_add, cell_eq qm]; rfl)
  refine ⟨_, rfl, s, cm (le_refl' F), ?_⟩
  refine runs_makeSlice underlying77 sz76' zr76' rfl (by omega) (Int.le_refl _) (by omega) (by omega) ?_
  intro bo hbo
  rw [zc8, Int.toNat_natCast, hlen]
  have h := (Lo.start F).new' (flatR l.length noR).toArray 76 hbo
  generalize F.set bo (.cells (flatR l.length noR).toArray 76) = F1 at *
  refine ⟨_, rfl, ?_⟩
  refine h.new _ _ fun b3 F2 h => ?_
  refine Lo.put1 [] [(bo, _, 76)] (b := b3) (i := 0) (w0 := #[.slice none 0 0]) (w := #[Sl.v ⟨some ⟨bo, 0, none⟩, l.length, l.length⟩]) (e := 77) h (by simp) rfl fun F3 h => ?_
  refine ⟨s, cm h.le, ?_⟩
  refine ⟨fun m i F' => ∃ w : Nat, i = w ∧ w ≤ l.length ∧ m = l.length - w ∧ Lo F F' [(b3, #[Sl.v ⟨some ⟨bo, 0, none⟩, l.length, l.length⟩], 77), (bo, (flatR l.length (bwd t w 0)).toArray, 76)], l.length, ⟨0, rfl, by omega, by omega, by rw [bwd_zero]; exact h⟩, ?_⟩
  clear h
  rintro _ _ F4 ⟨w, rfl, hw, rfl, h⟩
  unfold b82L1
  refine ⟨fun hlt => ?_, fun hge => ?_⟩
  · have hw' : w < l.length := by omega
    refine h.new _ _ fun b4 F5 h => ?_
    refine Lo.put1 [] [(b3, _, 77), (bo, _, 76)] (b := b4) (i := 0) (w0 := #[vi 0]) (w := #[vi w]) (e := 3) h (by simp) rfl fun F6 h => ?_
    have c4 : ∀ {F' : PH}, Lo F F' [(b4, #[vi w], 3), (b3, #[Sl.v ⟨some ⟨bo, 0, none⟩, l.length, l.length⟩], 77), (bo, (flatR l.length (bwd t w 512)).toArray, 76)] → F'.cell (Addr.mk b4 0 none) = some (vi w) := fun h => by rw [h.cell (b := b4) (w := #[vi w]) (e := 3) (by simp)]; rfl
    refine ⟨_, cf h.le, (w : Int), by rw [h.cell (b := b4) (w := #[vi w]) (e := 3) (by simp)]; rfl, _, rfl, by omega, by simp only; omega, ?_⟩
    rw [Int.toNat_natCast]
    refine (each_spec (a := (Addr.mk bf 0 none).add (w * 8)) (P := foB t w) (k := 83) (cap := #[pa b3, pa b4]) (Inv := fun m F' => Lo F F' [(b4, #[vi w], 3), (b3, #[Sl.v ⟨some ⟨bo, 0, none⟩, l.length, l.length⟩], 77), (bo, (flatR l.length (bwd t w m)).toArray, 76)]) cb83' (by rw [add_off])
      (fun m F' hI => ⟨hT.le hI.le, flat_row (hI.le _ _ qf) hw'⟩) (fun k F' hk hq hI => by rw [bwd_skip hq]; exact hI) (fun k F' hk hq hI => ?_) h).mono ?_
    · show Spec prog 83 #[vi k, pa b3, pa b4] F' _
      refine c83 ?_
      unfold b83
      have hkl := (hf w k (foB_iff.1 hq)).2
      refine ⟨_, rfl, _, by rw [hI.cell (b := b3) (w := #[Sl.v ⟨some ⟨bo, 0, none⟩, l.length, l.length⟩]) (e := 77) (by simp)]; rfl, _, rfl, by omega, by simp only; omega, _, rfl, (w : Int), by rw [hI.cell (b := b4) (w := #[vi w]) (e := 3) (by simp)]; rfl, ?_⟩
      rw [Int.toNat_natCast]
      refine (flat_add hkl (by omega) (hI.get (b := bo) (w := (flatR l.length (bwd t w k)).toArray) (e := 76) (by simp))).mono ?_
      rintro _ F'' ⟨rfl, hF⟩
      rw [bwd_add hq]
      have h' := Lo.upd [(b4, #[vi w], 3), (b3, #[Sl.v ⟨some ⟨bo, 0, none⟩, l.length, l.length⟩], 77)] [] (b := bo) (w0 := (flatR l.length (bwd t w k)).toArray) (e := 76) hI (F' := F'') (by rw [hF]; exact set_eq _ _ _) (by rw [hF]; exact Keep.set _ (.inl rfl))
      exact ⟨rfl, by rw [h'.cell (b := b3) (w := #[Sl.v ⟨some ⟨bo, 0, none⟩, l.length, l.length⟩]) (e := 77) (by simp)]; rfl, rfl, h'⟩
    · rintro _ F7 ⟨rfl, h⟩
      refine ⟨rfl, c4 h, cf h.le, l.length - (w + 1), by omega, w + 1, w64s (by omega), by omega, rfl, ?_⟩
      rw [← bwd_next hl]
      exact h.sub (.cons _ (List.Sublist.refl _))
  · obtain rfl : w = l.length := by omega
    unfold b82j1
    rw [bwd_all fun i j h => (hf i j h).1] at h
    exact ⟨_, by rw [h.cell (b := b3) (w := #[Sl.v ⟨some ⟨bo, 0, none⟩, l.length, l.length⟩]) (e := 77) (by simp)]; rfl, ⟨bo, rfl, h.get (by simp)⟩, h.le⟩
end
end Go.Proofs.YtnjcgpihfmklfaaDoor
