/-
  StoreKeys: the given statement.
-/
import Derived.Test.YtelkfnmdnbbniaaTopv
import Derived.Test.YtelkfnmdnbbniaaWy
namespace Go.Proofs.Ytelkfnmdnbbniaa.Lsk
open Go Go.ChangeShapes Go.WideShapes Go.ChangeAt Go.RowKit Go.Deep Go.Proofs.Try
theorem own : ownKnob Try.prog.godebug = Option.none := by kernel_rfl
theorem laidOut : laidOutB Try.prog = true := by kernel_rfl
set_option maxRecDepth 100000 in
theorem lifted (os : Os) (started : os.Started) (H : Type) (enc : TypeId × Value → H) :
  ReturnsInHanded {} Try.checked os 6 .any (Rows.storeKeysSpec.pre6 enc Try.prog Try.f6 Rows.storeKeysRow.domain false) (Rows.storeKeysSpec.post enc Try.prog Try.f6 false true false false) := by
 refine returnsInHanded_of_change_sized (C := Try.checked) own started (by kernel_rfl) Try.func6
  (ChangeSpec.witness6 (enc := enc) (C := Try.checked) false ⟨#[], #[.slice Option.none 0 0, .agg #[.int .u8 0, .slice Option.none 0 0], .int .u8 0], []⟩ 8 (by kernel_rfl) (by kernel_rfl) (by kernel_rfl) (by kernel_rfl)) ?_
 intro W base args ds gs before hval0 hW _ hsz0 _
 have hval : ∀ (j : Nat) t v, Try.f6.params[j]? = some t → args[j]? = some v → Value.okWide Try.prog W .any base t v := hval0
 have hsz : (DataW.weightsEach Try.prog (Try.f6.params.toList ++ []) (ds ++ gs)).all (· ≤ reachBytes) = true := hsz0
 have hW' := hW
 obtain ⟨p, q, hA0, hV, rfl, _, _⟩ := hW
 have hA : DataW.TrodAll enc Try.prog W 0 (fun _ => true) true Try.f6.params.toList args.toList ds p := hA0
 rw [Try.params6] at hA hval hsz
 obtain ⟨rfl, rfl⟩ := trodVars_none hV
 obtain ⟨v0, v1, v2, d0, d1, d2, p0, p1, p2, rfl, rfl, rfl, h0, h1, h2⟩ := trodAll_three hA
 obtain ⟨b0, l0, c0, rfl⟩ := okWide_slice Try.underlying22 (hval 0 22 v0 rfl rfl)
 obtain ⟨cs1, rfl, _⟩ := okWide_struct Try.underlying38 (hval 1 38 v1 rfl rfl)
 obtain ⟨a2, rfl, rfl, rfl, w2⟩ := open_int Try.underlying5 (hval 2 5 v2 rfl rfl) h2
 obtain ⟨fuel0, hf0⟩ := h0
 have hw0 : (d0.weights Try.prog 22).all (· ≤ reachBytes) = true := by
  rw [List.all_eq_true] at hsz ⊢
  exact fun y hy => hsz y (DataW.weights_mem_each (j := 0) rfl rfl y hy)
 obtain ⟨sl0, ops0, hv0, hops0⟩ := open_ops (c := .slice b0 l0 c0) hf0 hw0
 rw [hv0] at hW' ⊢
 obtain ⟨fuel1, hf1⟩ := h1
 have hw1 : (d1.weights Try.prog 38).all (· ≤ reachBytes) = true := by
  rw [List.all_eq_true] at hsz ⊢
  exact fun y hy => hsz y (DataW.weights_mem_each (j := 1) rfl rfl y hy)
 obtain ⟨o1, hv1, ho1⟩ := open_opv (cs := cs1) hf1 hw1
 refine (calls_of_spec (law6_spec (wf_u8 w2) hops0 hv1 ho1)).mono ?_
 rintro e W' ⟨rfl, hb⟩
 exact ⟨_, rfl, law_close laidOut rfl hW' (by kernel_rfl) rfl Try.underlying4 hb rfl⟩
theorem holds : Rows.StoreKeysSaid :=
 OpenClaim.holds_of_wide 6 Try.f6 rfl rfl rfl rfl rfl rfl rfl ⟨rfl, rfl, rfl, rfl, rfl⟩ rfl rfl rfl rfl rfl (by kernel_rfl) Try.func6 (by kernel_rfl)
  (of_decide_eq_true (by kernel_rfl)) (by unfold Func.isWrapper; first | (rw [if_pos (by decide +kernel)]; kernel_rfl) | (rw [if_neg (by decide +kernel)]; exact ⟨rfl, rfl⟩))
  (fun os started H enc _ => lifted os started H enc)
#print axioms holds
end Go.Proofs.Ytelkfnmdnbbniaa.Lsk
