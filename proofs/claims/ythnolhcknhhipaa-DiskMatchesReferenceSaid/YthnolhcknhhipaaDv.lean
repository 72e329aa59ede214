/-
  The disk: the reference's new state.
-/
import Derived.Test.YthnolhcknhhipaaDu
namespace Go.Proofs.Ythnolhcknhhipaa
open Go Go.Proofs.Try

theorem sec_zero {n i : Nat} (h : i < n) : sec (List.replicate (n * 64) 0) i = List.replicate 64 0 := by
  unfold sec
  rw [List.drop_replicate, List.take_replicate]
  congr 1
  omega
theorem st_zero48 : ∀ v ∈ zero48.toList, storable v := by
  intro v hv
  simp at hv
  rcases hv with rfl | rfl | rfl | rfl
  · exact st_sl (x := Sl.nil)
  · exact st_bool
  · exact st_int
  · exact st_sl (x := Sl.nil)
theorem new_ref {k : Int} (F : PH) (hk0 : -9223372036854775808 ≤ k) (hk1 : k ≤ 9223372036854775807) : Spec prog 22 #[.int .i64 k] F fun v F' => F.le F' ∧ ∃ cs : Array Value, cs.size = 5 ∧ (∀ v ∈ cs.toList, storable v) ∧
    ((k < 1 ∧ v = .tuple #[.agg cs, .int .i64 1]) ∨ (65536 < k ∧ v = .tuple #[.agg cs, .int .i64 2]) ∨
    (1 ≤ k ∧ k ≤ 65536 ∧ v = .tuple #[.agg cs, .int .i64 0] ∧ RRep F' cs k.toNat ⟨List.replicate (k.toNat * 64) 0, [], false, 0, []⟩)) := by
  refine c22 ?_
  unfold b22
  intro b2 hb2
  refine atI ?_
  have hle2 := le_set_fresh (.cells zero48 48) hb2
  have hc2 : (F.set b2 (.cells zero48 48)) b2 = some (.cells zero48 48 (0, 0)) := set_eq _ _ _
  have hleS := le_set_new (o := .cells zero48 48) hle2 hb2
  refine ⟨fun h1 => ret5 (K := fun a G => F.le G ∧ ∃ cs : Array Value, cs.size = 5 ∧ (∀ v ∈ cs.toList, storable v) ∧
    ((k < 1 ∧ Value.tuple #[.agg a, .int .i64 1] = .tuple #[.agg cs, .int .i64 1]) ∨ (65536 < k ∧ Value.tuple #[.agg a, .int .i64 1] = .tuple #[.agg cs, .int .i64 2]) ∨
    (1 ≤ k ∧ k ≤ 65536 ∧ Value.tuple #[.agg a, .int .i64 1] = .tuple #[.agg cs, .int .i64 0] ∧ RRep G cs k.toNat ⟨List.replicate (k.toNat * 64) 0, [], false, 0, []⟩))) zero48 rfl st_zero48 hc2 rfl ⟨hleS, zero48, rfl, st_zero48, .inl ⟨h1, rfl⟩⟩,
    fun h1 => ⟨fun h2 => ret5 (K := fun a G => F.le G ∧ ∃ cs : Array Value, cs.size = 5 ∧ (∀ v ∈ cs.toList, storable v) ∧
    ((k < 1 ∧ Value.tuple #[.agg a, .int .i64 2] = .tuple #[.agg cs, .int .i64 1]) ∨ (65536 < k ∧ Value.tuple #[.agg a, .int .i64 2] = .tuple #[.agg cs, .int .i64 2]) ∨
    (1 ≤ k ∧ k ≤ 65536 ∧ Value.tuple #[.agg a, .int .i64 2] = .tuple #[.agg cs, .int .i64 0] ∧ RRep G cs k.toNat ⟨List.replicate (k.toNat * 64) 0, [], false, 0, []⟩))) zero48 rfl st_zero48 hc2 rfl ⟨hleS, zero48, rfl, st_zero48, .inr (.inl ⟨h2, rfl⟩)⟩, fun h2 => ?_⟩⟩
  clear hleS
  show ∀ b4, (F.set b2 (.cells zero48 48)) b4 = none → _
  generalize F.set b2 (.cells zero48 48) = F2 at *
  intro b4 hb4
  refine atI ?_
  have h24 : b2 ≠ b4 := fun e => by rw [← e, hc2] at hb4; cases hb4
  have hF4 : F b4 = none := le_none hle2 hb4
  refine stW (set_eq _ _ _) rfl rfl st_zero48 ?_
  rw [set_twice]
  have hle4 := le_set_fresh (.cells zero48 48) hb4
  have hc4 : (F2.set b4 (.cells zero48 48)) b4 = some (.cells #[Sl.nil.v, Value.slice none 0 0, .bool false, .int .i64 0, Value.slice none 0 0] 48 (0, 0)) := set_eq _ _ _
  replace hc2 := hle4 _ _ hc2
  replace hle2 := le_trans' hle2 hle4
  clear hle4 hb4
  show ∃ (I1 : Nat → Int → PH → Prop) (m1 : Nat), I1 m1 (0 : Int) (F2.set b4 (.cells zero48 48)) ∧ _
  generalize F2.set b4 (.cells zero48 48) = F3 at *
  obtain ⟨n, rfl⟩ := Int.eq_ofNat_of_zero_le (show 0 ≤ k by omega)
  have hn2 : n ≤ 65536 := by omega
  have hn1 : 1 ≤ n := by omega
  refine ⟨fun m i F' => ∃ (p : Nat) (SL : List Sl) (g : Sl), i = p ∧ p ≤ n ∧ m = n - p ∧ F.le F' ∧ F' b2 = some (.cells zero48 48 (0, 0)) ∧ F' b4 = some (.cells #[g.v, Value.slice none 0 0, .bool false, .int .i64 0, Value.slice none 0 0] 48 (0, 0)) ∧ OwnS F' 26 1 g (SL.map Sl.v) ∧ SL.length = p ∧
      (∀ a, g.base = some a → a.block ≠ b2 ∧ a.block ≠ b4 ∧ F a.block = none) ∧ ∀ (i : Nat) (x : Sl), SL[i]? = some x → RdS (mns F' (gr g b2 b4)) x 1 (u8s (List.replicate 64 0)),
    n, ⟨0, [], Sl.nil, rfl, by omega, rfl, hle2, hc2, hc4, .inl ⟨rfl, rfl⟩, rfl, fun a ha => (by cases ha), fun i x hx => (by simp at hx)⟩, ?_⟩
  clear hle2 hc2 hc4
  rintro m i F' ⟨p, SL, g, rfl, hp, rfl, hle, h2', h4, hown, hSL, hg, hsr⟩
  unfold b22L1
  have hgl := hown.rd.len
  simp [hSL] at hgl
  refine ⟨fun hlt => ?_, fun hge => ?_⟩
  · refine ⟨g, by rw [cell_eq h4]; rfl, ?_⟩
    refine runs_makeSlice underlying26 sz5 zr5 rfl (by decide) (by decide) (by decide) (by decide) ?_
    intro z hz
    rw [zc1 _ rfl]
    have hlez := le_set_fresh (.cells (List.replicate (Int.toNat 64) (Value.int .u8 0)).toArray 5) hz
    have hcz : (F'.set z (.cells (List.replicate (Int.toNat 64) (Value.int .u8 0)).toArray 5)) z = some (.cells (List.replicate (Int.toNat 64) (Value.int .u8 0)).toArray 5 (0, 0)) := set_eq _ _ _
    have hz2 : z ≠ b2 := fun e => by rw [e, h2'] at hz; cases hz
    have hz4 : z ≠ b4 := fun e => by rw [e, h4] at hz; cases hz
    have hgd : ∀ a, g.base = some a → F' a.block ≠ none := fun a ha => by
      rcases hown with ⟨e1, _⟩ | ⟨g', cur, k1, k2, _⟩
      · rw [e1] at ha; cases ha
      · rw [ha] at k1; cases k1; rw [k2]; simp
    have hzg : ∀ a, g.base = some a → a.block ≠ z := fun a ha e => hgd a ha (by rw [e]; exact hz)
    have h4z := hlez _ _ h4
    refine ⟨_, rfl, by rw [cell_eq h4z]; rfl, ?_⟩
    intro b21 hb21
    refine atI ?_
    generalize F'.set z (.cells (List.replicate (Int.toNat 64) (Value.int .u8 0)).toArray 5) = F5 at *
    have hle21 := le_set_fresh (.cells #[Sl.v ⟨some ⟨z, 0, none⟩, Int.toNat 64, Int.toNat 64⟩] 26) hb21
    have hone : RdS (F5.set b21 (.cells #[Sl.v ⟨some ⟨z, 0, none⟩, Int.toNat 64, Int.toNat 64⟩] 26)) ⟨some ⟨b21, 0, none⟩, 1, 1⟩ 1 ([(⟨some ⟨z, 0, none⟩, Int.toNat 64, Int.toNat 64⟩ : Sl)].map Sl.v) := RdS.new (set_eq _ _ _) (by simp) (by simp) (Nat.le_refl _)
    have hle6 := le_trans' hlez hle21
    have hcz6 := hle21 _ _ hcz
    generalize F5.set b21 (.cells #[Sl.v ⟨some ⟨z, 0, none⟩, Int.toNat 64, Int.toNat 64⟩] 26) = F6 at *
    have hown6 := hown.keepK (G := F6) (fp := fun _ => False) (Keep.of_le hle6) (fun _ _ h => h)
    refine own_app (F0 := F) underlying45 sz26 zr26 rfl (by decide) (le_trans' hle hle6) hown6 (fun a ha => (hg a ha).2.2) hone st_sls (by simp only; omega) (by simp only; omega) ?_
    intro s' F7 hle7 hown7 hlen7 hnew7 hkeep hb7
    have h47 := hkeep _ _ (hle6 _ _ h4) (fun ⟨a, ha, e⟩ => (hg a ha).2.1 e)
    have h27 := hkeep _ _ (hle6 _ _ h2') (fun ⟨a, ha, e⟩ => (hg a ha).1 e)
    have hcz7 := hkeep _ _ hcz6 (fun ⟨a, ha, e⟩ => hzg a ha e)
    have hs' : ∀ a, s'.base = some a → a.block ≠ b2 ∧ a.block ≠ b4 ∧ a.block ≠ z := fun a ha => by
      rcases hb7 a ha with ⟨a', ha', e⟩ | hn
      · rw [← e]; exact ⟨(hg a' ha').1, (hg a' ha').2.1, hzg a' ha'⟩
      · exact ⟨fun e => (by rw [e, hle6 _ _ h2'] at hn; cases hn), fun e => (by rw [e, hle6 _ _ h4] at hn; cases hn), fun e => (by rw [e, hcz6] at hn; cases hn)⟩
    refine ⟨s', rfl, ?_⟩
    refine st1 (b := b4) (o := 0) h47 (by simp) ?_
    have hmn : ∀ (b : Nat) (o : Obj), mns F' (gr g b2 b4) b = some o → mns (F7.set b4 (.cells #[s'.v, Value.slice none 0 0, .bool false, .int .i64 0, Value.slice none 0 0] 48)) (gr s' b2 b4) b = some o := fun b o hb => by
      by_cases hp : gr g b2 b4 b
      · simp [mns, hp] at hb
      · rw [mns_of hp] at hb
        rw [mns_of, set_ne _ _ (fun e => hp (.inr (.inl e)))]
        · exact hkeep _ _ (hle6 _ _ hb) (fun ⟨a, ha, e⟩ => hp (.inr (.inr ⟨a, ha, e⟩)))
        · rintro (e | e | ⟨a, ha, e⟩)
          · exact hp (.inl e)
          · exact hp (.inr (.inl e))
          · rcases hb7 a ha with ⟨a', ha', e'⟩ | hn
            · exact hp (.inr (.inr ⟨a', ha', e'.trans e⟩))
            · rw [e, hle6 _ _ hb] at hn; cases hn
    refine ⟨n - (p + 1), by omega, p + 1, SL ++ [⟨some ⟨z, 0, none⟩, Int.toNat 64, Int.toNat 64⟩], s', w64s (by omega), by omega, rfl, le_set_new hle7 hF4, (set_ne _ _ h24).trans h27, set_eq _ _ _, ?_, by simp [hSL], fun a ha => ⟨(hs' a ha).1, (hs' a ha).2.1, hnew7 a ha⟩, fun i x hx => ?_⟩
    · rw [List.map_append]
      exact hown7.keep (fun a ha => set_ne _ _ (hs' a ha).2.1)
    · by_cases hi : i < SL.length
      · rw [List.getElem?_append_left hi] at hx
        exact (hsr i x hx).le hmn
      · rw [List.getElem?_append_right (by omega)] at hx
        have hi0 : i - SL.length = 0 := by
          have := (List.getElem?_eq_some_iff.1 hx).1
          simp at this; omega
        rw [hi0] at hx
        cases hx
        refine rd_new (g := z) (n := Int.toNat 64) (cap := Int.toNat 64) (tl := []) (e := 5) ?_ ?_ (by simp) (Nat.le_refl _)
        · rw [set_ne _ _ hz4, hcz7]; simp
        · rintro (e | e | ⟨a, ha, e⟩)
          · exact hz2 e
          · exact hz4 e
          · exact (hs' a ha).2.2 e
  · obtain rfl : p = n := by omega
    unfold b22j1
    refine ⟨_, rfl, row_whole h4, ret5 (K := fun a G => F.le G ∧ ∃ cs : Array Value, cs.size = 5 ∧ (∀ v ∈ cs.toList, storable v) ∧
      (((p : Int) < 1 ∧ Value.tuple #[.agg a, .int .i64 0] = .tuple #[.agg cs, .int .i64 1]) ∨ (65536 < (p : Int) ∧ Value.tuple #[.agg a, .int .i64 0] = .tuple #[.agg cs, .int .i64 2]) ∨
      (1 ≤ (p : Int) ∧ (p : Int) ≤ 65536 ∧ Value.tuple #[.agg a, .int .i64 0] = .tuple #[.agg cs, .int .i64 0] ∧ RRep G cs (Int.toNat (p : Int)) ⟨List.replicate (Int.toNat (p : Int) * 64) 0, [], false, 0, []⟩))) _ rfl ?_ h2' rfl ?_⟩
    · intro v hv
      simp at hv
      rcases hv with rfl | rfl | rfl | rfl | rfl
      · exact st_sl
      · exact st_sl (x := Sl.nil)
      · exact st_bool
      · exact st_int
      · exact st_sl (x := Sl.nil)
    have hst5 : ∀ v ∈ (#[g.v, Value.slice none 0 0, .bool false, .int .i64 0, Value.slice none 0 0] : Array Value).toList, storable v := by
      intro v hv
      simp at hv
      rcases hv with rfl | rfl | rfl | rfl | rfl
      · exact st_sl
      · exact st_sl (x := Sl.nil)
      · exact st_bool
      · exact st_int
      · exact st_sl (x := Sl.nil)
    refine ⟨le_set_new hle hb2, _, rfl, hst5, .inr (.inr ⟨by omega, by omega, rfl, ?_⟩)⟩
    simp only [Int.toNat_natCast]
    have hmH : ∀ (b : Nat) (o : Obj), mns F' (gr g b2 b4) b = some o → (F'.set b2 (.cells #[g.v, Value.slice none 0 0, .bool false, .int .i64 0, Value.slice none 0 0] 48)) b = some o := fun b o hb => by
      by_cases hp2 : gr g b2 b4 b
      · simp [mns, hp2] at hb
      · rw [mns_of hp2] at hb
        rw [set_ne _ _ (fun e => hp2 (.inl e))]
        exact hb
    have hownH : OwnS (F'.set b2 (.cells #[g.v, Value.slice none 0 0, .bool false, .int .i64 0, Value.slice none 0 0] 48)) 26 1 g (SL.map Sl.v) := hown.keep (fun a ha => set_ne _ _ (hg a ha).1)
    exact ⟨SL, [], g, Sl.nil, Sl.nil, rfl, hownH.rd, hSL, fun i x hx => (by
        have hi := (List.getElem?_eq_some_iff.1 hx).1
        rw [sec_zero (by omega)]
        exact (hsr i x hx).le hmH), RdS.nil _ _, rfl, fun k x hx => (by simp at hx), RdS.nil _ _, ⟨hn1, hn2, by simp, by simp, by simp, by simp, by simp⟩, by simp⟩
end Go.Proofs.Ythnolhcknhhipaa
