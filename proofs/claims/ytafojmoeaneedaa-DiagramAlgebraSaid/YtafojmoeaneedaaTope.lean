/-
  Arguments of the laws on diagrams: three sets, a diagram.
-/
import Derived.Test.YtafojmoeaneedaaTopd
import Derived.Test.YtafojmoeaneedaaFk
namespace Go.Proofs.Ytafojmoeaneedaa
open Go Go.ChangeShapes Go.WideShapes Go.ChangeAt Go.RowKit Go.Deep Go.Proofs.Try
set_option maxRecDepth 10000

theorem okWide_arr43 {w : World} {r : Reach} {base : Nat} {v : Value} (h : Value.okWide prog w r base 43 v) : ∃ cs, v = .agg cs := by
  simp only [Value.okWide, underlying43] at h
  obtain ⟨cs, h1, _⟩ := h
  exact ⟨cs, h1⟩
theorem cells43 : prog.cellsOf 43 = 6 := by kernel_rfl
theorem cells26 : prog.cellsOf 26 = 1 := by kernel_rfl
theorem cells28 : prog.cellsOf 28 = 2 := by kernel_rfl

section
variable {H : Type} {enc : TypeId × Value → H} {W : World}
theorem all_mem {P : Program} {e : TypeId} : ∀ (l : List (DataW H)) (d : DataW H), d ∈ l → ∀ y ∈ d.weights P e, y ∈ DataW.weightsAll P e l
  | [], d, hd => by cases hd
  | a :: l, d, hd => fun y hy => by
    simp only [DataW.weightsAll, List.mem_append]
    rcases List.mem_cons.1 hd with rfl | hd
    · exact .inl hy
    · exact .inr (all_mem l d hd y hy)
/-- Three sets. -/
theorem open_sets {fuel : Nat} {cs : Array Value} {x : DataW H × List MemPlace} (h : DataW.trod enc prog W 0 (fun _ => true) true fuel 43 cs.toList = some x) (hw : (x.1.weights prog 43).all (· ≤ reachBytes) = true) :
    ∃ s0 s1 s2 n0 n1 n2, SetsV (hF W) cs s0 s1 s2 n0 n1 n2 := by
  obtain ⟨xs, n, _, rfl, hl, hxl, hf⟩ := DataW.trod_array underlying43 h
  rw [cells43] at hl
  obtain ⟨cs⟩ := cs
  match cs, hl with
  | [c0, c1, c2, c3, c4, c5], _ =>
  match xs, hxl with
  | [x0, x1, x2], _ =>
  have f0 := hf 0 (by omega)
  have f1 := hf 1 (by omega)
  have f2 := hf 2 (by omega)
  simp only [cells24, Nat.zero_mul, Nat.one_mul, List.drop_zero, List.drop_succ_cons, List.take_succ_cons, List.take_zero, List.getElem?_cons_zero, List.getElem?_cons_succ] at f0 f1 f2
  have hwi : ∀ y : DataW H × List MemPlace, y ∈ [x0, x1, x2] → (y.1.weights prog 24).all (· ≤ reachBytes) = true := fun y hy => by
    rw [List.all_eq_true] at hw ⊢
    intro z hz
    refine hw z ?_
    simp only [DataW.weights, underlying43]
    exact all_mem _ y.1 (List.mem_map.2 ⟨y, hy, rfl⟩) z hz
  obtain ⟨n0, h0⟩ := open_set (cs := #[c0, c1]) f0 (hwi _ (by simp))
  obtain ⟨n1, h1⟩ := open_set (cs := #[c2, c3]) f1 (hwi _ (by simp))
  obtain ⟨n2, h2⟩ := open_set (cs := #[c4, c5]) f2 (hwi _ (by simp))
  exact ⟨#[c0, c1], #[c2, c3], #[c4, c5], n0, n1, n2, rfl, h0, h1, h2⟩
end
end Go.Proofs.Ytafojmoeaneedaa
