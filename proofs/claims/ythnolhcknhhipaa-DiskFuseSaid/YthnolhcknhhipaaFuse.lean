/-
  DiskFuse: the given statement.
-/
import Derived.Test.YthnolhcknhhipaaTops
import Derived.Test.YthnolhcknhhipaaDp
namespace Go.Proofs.Ythnolhcknhhipaa.Fuse
open Go Go.ChangeShapes Go.WideShapes Go.ChangeAt Go.RowKit Go.Deep Go.Proofs.Try

theorem own : ownKnob Try.prog.godebug = Option.none := by kernel_rfl
theorem laidOut : laidOutB Try.prog = true := by kernel_rfl
theorem cells58 : prog.cellsOf 58 = 4 := by kernel_rfl
theorem cells22 : prog.cellsOf 22 = 1 := by kernel_rfl

theorem open_fuse {H : Type} {enc : TypeId × Value → H} {W : World} {fuel : Nat} {cs : List Value} {x : DataW H × List MemPlace} (h : DataW.trod enc prog W 0 (fun _ => true) true fuel 58 cs = some x) (hw : (x.1.weights prog 58).all (· ≤ reachBytes) = true) :
    ∃ (l vm kept : Sl) (nn : Int) (ops ops2 : List OpD) (kl : List Int), cs = [l.v, vm.v, .int .u8 nn, kept.v] ∧ OpsRd (hF W) l ops ∧ OpsRd (hF W) vm ops2 ∧ RdS (hF W) kept 1 (i64s kl) ∧ kept.len * 8 ≤ 140737488355328 ∧ 0 ≤ nn ∧ nn ≤ 255 := by
  obtain ⟨xs, n, _, rfl, hl, hxl, hf⟩ := DataW.trod_struct underlying58 h
  rw [cells58] at hl
  match cs, hl with
  | [c0, c1, c2, c3], _ =>
  match xs, hxl with
  | [x0, x1, x2, x3], _ =>
  have f0 := hf 0 _ rfl
  have f1 := hf 1 _ rfl
  have f2 := hf 2 _ rfl
  have f3 := hf 3 _ rfl
  simp only [cells5, cells22, cells37, List.drop_zero, List.drop_succ_cons, List.take_succ_cons, List.take_zero, List.getElem?_cons_zero, List.getElem?_cons_succ] at f0 f1 f2 f3
  have hws : ∀ (j : Nat) (t : TypeId) (y : DataW H × List MemPlace), [22, 22, 5, 37][j]? = some t → [x0, x1, x2, x3][j]? = some y → (y.1.weights prog t).all (· ≤ reachBytes) = true := fun j t y ht hy => by
    rw [List.all_eq_true] at hw ⊢
    intro q hq
    refine hw q ?_
    simp only [DataW.weights, underlying58]
    exact DataW.weights_mem_each (j := j) ht (by rw [List.getElem?_map, hy]; rfl) q hq
  obtain ⟨z2, e2, _, w2⟩ := DataW.trod_int underlying5 f2
  cases e2
  obtain ⟨l, ops, rfl, h1⟩ := open_ops f0 (hws 0 22 x0 rfl rfl)
  obtain ⟨vm, ops2, rfl, h2⟩ := open_ops f1 (hws 1 22 x1 rfl rfl)
  obtain ⟨kept, kl, rfl, h3, _, hb, _⟩ := open_row underlying37 underlying3 cells3 f3 (hws 3 37 x3 rfl rfl)
  rw [bytes3] at hb
  unfold reachBytes at hb
  exact ⟨l, vm, kept, z2, ops, ops2, kl, rfl, h1, h2, h3, by omega, wf_u8 w2⟩

set_option maxRecDepth 100000 in
theorem lifted (os : Os) (started : os.Started) (H : Type) (enc : TypeId × Value → H) :
    ReturnsInHanded {} Try.checked os 7 .any (Rows.diskFuseSpec.pre6 enc Try.prog Try.f7 Rows.diskFuseRow.domain false) (Rows.diskFuseSpec.post enc Try.prog Try.f7 false true false false) := by
  refine returnsInHanded_of_change_sized (C := Try.checked) own started (by kernel_rfl) Try.func7
    (ChangeSpec.witness6 (enc := enc) (C := Try.checked) false ⟨#[], #[.agg #[.slice Option.none 0 0, .slice Option.none 0 0, .int .u8 0, .slice Option.none 0 0]], []⟩ 8 (by kernel_rfl) (by kernel_rfl) (by kernel_rfl) (by kernel_rfl)) ?_
  intro W base args ds gs before hval0 hW _ hsz0 _
  have hval : ∀ (j : Nat) t v, Try.f7.params[j]? = some t → args[j]? = some v → Value.okWide Try.prog W .any base t v := hval0
  have hsz : (DataW.weightsEach Try.prog (Try.f7.params.toList ++ []) (ds ++ gs)).all (· ≤ reachBytes) = true := hsz0
  have hW' := hW
  obtain ⟨p, q, hA0, hV, rfl, _, _⟩ := hW
  have hA : DataW.TrodAll enc Try.prog W 0 (fun _ => true) true Try.f7.params.toList args.toList ds p := hA0
  rw [Try.params7] at hA hval hsz
  obtain ⟨rfl, rfl⟩ := trodVars_none hV
  obtain ⟨v0, vs, d0, ds0, p0, q0, hargs, rfl, rfl, h0, hrest⟩ := trodAll_cons hA
  obtain ⟨rfl, rfl, rfl⟩ := trodAll_nil hrest
  obtain rfl : args = #[v0] := by cases args; simp_all
  have hv0 : ∃ cs, v0 = .agg cs := by
    have := hval 0 58 v0 rfl rfl
    unfold Value.okWide at this
    rw [Try.underlying58] at this
    obtain ⟨cs, h, _⟩ := this
    exact ⟨cs, h⟩
  obtain ⟨cs, rfl⟩ := hv0
  obtain ⟨fuel, hf⟩ := h0
  have hw : (d0.weights Try.prog 58).all (· ≤ reachBytes) = true := by
    rw [List.all_eq_true] at hsz ⊢
    exact fun y hy => hsz y (DataW.weights_mem_each (j := 0) rfl rfl y hy)
  obtain ⟨l, vm, kept, nn, ops, ops2, kl, hcs, h1, h2, h3, h4, h5, h6⟩ := open_fuse (cs := cs.toList) hf hw
  obtain rfl : cs = #[l.v, vm.v, .int .u8 nn, kept.v] := Array.ext' hcs
  refine (calls_of_spec (fuselaw_spec h1 h2 h3 h4 h5 h6)).mono ?_
  rintro e W' ⟨rfl, hb⟩
  exact ⟨_, rfl, law_close laidOut rfl hW' (by kernel_rfl) rfl Try.underlying4 hb rfl⟩

/-- THE GIVEN STATEMENT. -/
theorem holds : Rows.DiskFuseSaid :=
  OpenClaim.holds_of_wide 7 Try.f7 rfl rfl rfl rfl rfl rfl rfl ⟨rfl, rfl, rfl, rfl, rfl⟩ rfl rfl rfl rfl rfl (by kernel_rfl) Try.func7 (by kernel_rfl)
    (of_decide_eq_true (by kernel_rfl)) (by unfold Func.isWrapper; first | (rw [if_pos (by decide +kernel)]; kernel_rfl) | (rw [if_neg (by decide +kernel)]; exact ⟨rfl, rfl⟩))
    (fun os started H enc _ => lifted os started H enc)
#print axioms holds
end Go.Proofs.Ythnolhcknhhipaa.Fuse
