/-
  StoreSurvives: the given statement, where what it reads is of bulk at most 1048576.
-/
import Derived.Test.YtelkfnmdnbbniaaTopvw
import Derived.Test.YtelkfnmdnbbniaaWz
namespace Go.Proofs.Ytelkfnmdnbbniaa.Lsv
open Go Go.ChangeShapes Go.WideShapes Go.ChangeAt Go.RowKit Go.Deep Go.Proofs.Try
theorem own : ownKnob Try.prog.godebug = Option.none := by kernel_rfl
theorem laidOut : laidOutB Try.prog = true := by kernel_rfl
set_option maxRecDepth 100000 in
theorem lifted (os : Os) (started : os.Started) (H : Type) (enc : TypeId × Value → H) (F : Stop.Interp) :
  ReturnsInHanded {} Try.checked os 8 .any ((Rows.OpenSpec.upto Rows.storeSurvivesSpec).pre6 enc Try.prog Try.f8 Rows.storeSurvivesUptoRow.domain false) (((Rows.OpenSpec.upto Rows.storeSurvivesSpec).at F).post enc Try.prog Try.f8 false true false false) := by
 refine returnsInHanded_of_cond_sized (C := Try.checked) (s := Rows.OpenSpec.upto Rows.storeSurvivesSpec) (k := Rows.uptoSmall) rfl own started (by kernel_rfl) Try.func8
  (OpenSpec.witness (enc := enc) (C := Try.checked) (s := Rows.OpenSpec.upto Rows.storeSurvivesSpec) (k := Rows.uptoSmall) rfl false ⟨#[], #[.int .u8 0, .slice Option.none 0 0, .agg #[.int .u8 0, .slice Option.none 0 0]], []⟩ 8 (by kernel_rfl) (by kernel_rfl) (by kernel_rfl)
   (x := ([.lit (.int .u8 0), .nil, .agg [.lit (.int .u8 0), .nil]], [], [])) (by kernel_rfl) rfl (by kernel_rfl)) ?_
 intro W base args ds gs before hval0 hW _ hk hsz0 _
 have hval : ∀ (j : Nat) t v, Try.f8.params[j]? = some t → args[j]? = some v → Value.okWide Try.prog W .any base t v := hval0
 have hsz : (DataW.weightsEach Try.prog (Try.f8.params.toList ++ []) (ds ++ gs)).all (· ≤ reachBytes) = true := hsz0
 have hW' := hW
 obtain ⟨p, q, hA0, hV, rfl, _, _⟩ := hW
 have hA : DataW.TrodAll enc Try.prog W 0 (fun _ => true) true Try.f8.params.toList args.toList ds p := hA0
 rw [Try.params8] at hA hval hsz
 obtain ⟨rfl, rfl⟩ := trodVars_none hV
 obtain ⟨v0, v1, v2, d0, d1, d2, p0, p1, p2, rfl, rfl, rfl, h0, h1, h2⟩ := trodAll_three hA
 obtain ⟨a0, rfl, rfl, rfl, w0⟩ := open_int Try.underlying5 (hval 0 5 v0 rfl rfl) h0
 obtain ⟨b1, l1, c1, rfl⟩ := okWide_slice Try.underlying22 (hval 1 22 v1 rfl rfl)
 obtain ⟨cs2, rfl, _⟩ := okWide_struct Try.underlying66 (hval 2 66 v2 rfl rfl)
 obtain ⟨fuel1, hf1⟩ := h1
 have hw1 : (d1.weights Try.prog 22).all (· ≤ reachBytes) = true := by
  rw [List.all_eq_true] at hsz ⊢
  exact fun y hy => hsz y (DataW.weights_mem_each (j := 1) rfl rfl y hy)
 obtain ⟨sl1, ops1, hv1, hops1⟩ := open_ops (c := .slice b1 l1 c1) hf1 hw1
 rw [hv1] at hW' ⊢
 obtain ⟨fuel2, hf2⟩ := h2
 have hw2 : (d2.weights Try.prog 66).all (· ≤ reachBytes) = true := by
  rw [List.all_eq_true] at hsz ⊢
  exact fun y hy => hsz y (DataW.weights_mem_each (j := 2) rfl rfl y hy)
 obtain ⟨z2, sl2, zs2, hv2, hz2, hr2, hzr2, hbk2⟩ := open_failU (cs := cs2) hf2 hw2 (short (List.mem_append_left _ (by simp)) hk)
 refine (calls_of_spec (law8_spec (wf_u8 w0) hops1 hv2 hz2 hr2 hzr2 (by omega))).mono ?_
 rintro e W' ⟨rfl, hb⟩
 exact ⟨_, rfl, law_close laidOut rfl hW' (by kernel_rfl) rfl Try.underlying4 hb rfl⟩
theorem holds : Rows.StoreSurvivesUptoSaid :=
 OpenClaim.holds_of_cond 8 Try.f8 rfl rfl rfl rfl rfl rfl rfl ⟨rfl, rfl, rfl, rfl, rfl⟩ rfl rfl rfl rfl rfl (by kernel_rfl) Try.func8 (by kernel_rfl)
  (of_decide_eq_true (by kernel_rfl)) (by unfold Func.isWrapper; first | (rw [if_pos (by decide +kernel)]; kernel_rfl) | (rw [if_neg (by decide +kernel)]; exact ⟨rfl, rfl⟩))
  (fun os started H enc _ F => lifted os started H enc F)
#print axioms holds
end Go.Proofs.Ytelkfnmdnbbniaa.Lsv
