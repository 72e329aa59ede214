/-
  PatternCommonMatchesReference: the given statement.
-/
import Derived.Test.YtnjcgpihfmklfaaDoorTopi
import Derived.Test.YtnjcgpihfmklfaaDoorTm
namespace Go.Proofs.YtnjcgpihfmklfaaDoor.Pcom
open Go Go.ChangeShapes Go.WideShapes Go.ChangeAt Go.RowKit Go.Proofs.Tryd
set_option maxRecDepth 100000 in
theorem lifted (os : Os) (started : os.Started) (H : Type) (enc : TypeId × Value → H) :
  ReturnsInHanded {} Tryd.checked os 6 .any (fun w args => (Rows.patternCommonMatchesReferenceSpec.pre enc Tryd.prog Tryd.f6 Rows.patternCommonMatchesReferenceRow.domain false w args ∧ laidMetH Tryd.prog laidT w) ∧ sizedMet enc Tryd.prog Tryd.f6 (OpenSpec.ofChange Rows.patternCommonMatchesReferenceSpec) false w args)
   (Rows.patternCommonMatchesReferenceSpec.post enc Tryd.prog Tryd.f6 false true false false) := by
 refine returnsInHanded_of_change_and (C := Tryd.checked) (X := fun w _ => laidMetH Tryd.prog laidT w) (fun _ _ _ hh h => h.of_heap hh) own started (by kernel_rfl) Tryd.func6
  (ChangeSpec.witness_shaped (enc := enc) (C := Tryd.checked) (os := os) (X := fun w _ => laidMetH Tryd.prog laidT w) false (World.laidAll Tryd.prog os laidT) #[.slice Option.none 0 0, .slice Option.none 0 0] 8 (World.laidAll_os _ _ _)
   (World.shaped_of_ZipB (by kernel_rfl) (by kernel_rfl)) (by kernel_rfl) (by kernel_rfl) (by kernel_rfl) (laid_met os _)) ?_
 intro W base args ds gs before hval0 hW _ hsz0 hL _
 have hval : ∀ (j : Nat) t v, Tryd.f6.params[j]? = some t → args[j]? = some v → Value.okWide Tryd.prog W .any base t v := hval0
 have hsz : (DataW.weightsEach Tryd.prog (Tryd.f6.params.toList ++ []) (ds ++ gs)).all (· ≤ reachBytes) = true := hsz0
 have hW' := hW
 obtain ⟨p, q, hA0, hV, rfl, _, _⟩ := hW
 have hA : DataW.TrodAll enc Tryd.prog W 0 (fun _ => true) true Tryd.f6.params.toList args.toList ds p := hA0
 rw [Tryd.params6] at hA hval hsz
 obtain ⟨rfl, rfl⟩ := trodVars_none hV
 obtain ⟨v0, v1, d0, d1, p0, p1, rfl, rfl, rfl, h0, h1⟩ := trodAll_two hA
 obtain ⟨b0, l0, c0, rfl⟩ := okWide_slice Tryd.underlying22 (hval 0 22 v0 rfl rfl)
 obtain ⟨b1, l1, c1, rfl⟩ := okWide_slice Tryd.underlying22 (hval 1 22 v1 rfl rfl)
 obtain ⟨fuel0, hf0⟩ := h0
 have hw0 : (d0.weights Tryd.prog 22).all (· ≤ reachBytes) = true := by
  rw [List.all_eq_true] at hsz ⊢
  exact fun y hy => hsz y (DataW.weights_mem_each (j := 0) rfl rfl y hy)
 obtain ⟨sl0, zs0, hv0, hr0, hz0, hb0, _⟩ := open_row (c := .slice b0 l0 c0) Tryd.underlying22 Tryd.underlying5 cells5 hf0 hw0
 rw [hv0] at hW' ⊢
 obtain ⟨fuel1, hf1⟩ := h1
 have hw1 : (d1.weights Tryd.prog 22).all (· ≤ reachBytes) = true := by
  rw [List.all_eq_true] at hsz ⊢
  exact fun y hy => hsz y (DataW.weights_mem_each (j := 1) rfl rfl y hy)
 obtain ⟨sl1, zs1, hv1, hr1, hz1, hb1, _⟩ := open_row (c := .slice b1 l1 c1) Tryd.underlying22 Tryd.underlying5 cells5 hf1 hw1
 rw [hv1] at hW' ⊢
 refine (calls_of_spec (law6_spec (tab_of_laid hL) hr0 (fun x hx => row_u8 (hz0 x hx)) (row_len hr0 hb0) hr1 (fun x hx => row_u8 (hz1 x hx)) (row_len hr1 hb1))).mono ?_
 rintro e W' ⟨rfl, hb⟩
 exact ⟨_, rfl, law_close laidOut rfl hW' (by kernel_rfl) rfl Tryd.underlying4 hb rfl⟩
theorem said : Rows.PatternCommonMatchesReferenceSaid :=
 OpenClaim.holds_of_wide 6 Tryd.f6 rfl rfl rfl rfl rfl rfl rfl ⟨rfl, rfl, rfl, rfl, rfl⟩ rfl rfl rfl rfl rfl (by kernel_rfl) Tryd.func6 (by kernel_rfl)
  (of_decide_eq_true (by kernel_rfl)) (by unfold Func.isWrapper; first | (rw [if_pos (by decide +kernel)]; kernel_rfl) | (rw [if_neg (by decide +kernel)]; exact ⟨rfl, rfl⟩))
  (fun os started H enc _ => lifted os started H enc)
theorem holds : Rows.PatternCommonMatchesReferenceCardSaid :=
 Claim7.holds_tied_plain_at .later [] [.data] true (true, "886bce3f6eff7da80223bec5ff4ccb772f4565bf6bac3b7e0f440fae3f41d69b") false
  said (fun _ h => by cases h) (by kernel_rfl) (fun _ h => by cases h) patternCommonMatchesReference_row_tie rfl ⟨rfl, rfl⟩ (by kernel_rfl) rfl
  (fun f fn hf hfn => by
   obtain rfl : f = 6 := Option.some.inj ((show Tryd.prog.funcNamed "koine/koinelaw04.PatternCommonMatchesReference" = some 6 by kernel_rfl).symm.trans hf) |>.symm
   obtain rfl : fn = Tryd.f6 := (Option.some.inj (Tryd.func6.symm.trans hfn)).symm
   exact ⟨by kernel_rfl, fun j t ht => by
    rw [Tryd.params6] at ht
    have hm : t ∈ [22, 22] := by simpa using Array.mem_of_getElem? ht
    have hall : ([22, 22].all fun u => !Tryd.prog.wantsStandIn u) = true := by kernel_rfl
    exact (show Tryd.prog.wantsStandIn t = false by simpa using List.all_eq_true.1 hall t hm)⟩)
  (by kernel_rfl)
#print axioms holds
end Go.Proofs.YtnjcgpihfmklfaaDoor.Pcom
