/-
  Arguments of the laws on diagrams: rows of numbers, sets, diagrams, opened.
-/
import Derived.Test.YtafojmoeaneedaaTop
import Derived.Test.YtafojmoeaneedaaFb
namespace Go.Proofs.Ytafojmoeaneedaa
open Go Go.ChangeShapes Go.WideShapes Go.ChangeAt Go.RowKit Go.Deep Go.Proofs.Try
set_option maxRecDepth 10000

section
variable {H : Type} {enc : TypeId × Value → H} {P : Program} {W : World}

theorem fuel_some {t : TypeId} {v : Value} {d : DataW H} {ps : List MemPlace} (h : DataW.Trod enc P W 0 (fun _ => true) true t v d ps) : ∃ fuel, DataW.trod enc P W 0 (fun _ => true) true fuel t v.cells.toList = some (d, ps) := h

/-- A row of numbers. -/
theorem open_row {t e fuel : Nat} {k : IntKind} {c : Value} {x : DataW H × List MemPlace} (ht : P.underlying t = some (.slice e)) (he : P.underlying e = some (.int k)) (hc : P.cellsOf e = 1)
    (h : DataW.trod enc P W 0 (fun _ => true) true fuel t [c] = some x) (hw : (x.1.weights P t).all (· ≤ reachBytes) = true) :
    ∃ (sl : Sl) (zs : List Int), c = Sl.v sl ∧ RdS (hF W) sl 1 (zs.map (Value.int k)) ∧ (∀ z ∈ zs, (Lit.int k z).wf = true) ∧ sl.len * P.bytesOf e ≤ reachBytes ∧ sl.cap * P.bytesOf e ≤ reachBytes := by
  rcases open_slice1 ht hc h with ⟨hcs, rfl⟩ | ⟨a, len, cap, m, n, V, D, Pl, hcs, _, hl, hm, hmm, rfl, hx⟩
  · cases hcs
    exact ⟨Sl.nil, [], rfl, RdS.nil _ _, by simp, by simp [Sl.nil], by simp [Sl.nil]⟩
  · cases hcs
    simp only [if_true] at hmm
    subst hmm
    have hz : ∀ i, i < m → ∃ z, V i = .int k z ∧ (Lit.int k z).wf = true := fun i hi => by
      obtain ⟨z, h1, _, h3⟩ := DataW.trod_int he (hx i hi).2
      exact ⟨z, by simpa using h1, h3⟩
    obtain ⟨Z, hZ⟩ := choose_lt hz
    have hb : m * P.bytesOf e ≤ reachBytes := by
      simp only [DataW.weights, ht, List.all_cons, Bool.and_eq_true, decide_eq_true_eq, List.length_map, List.length_range] at hw
      rw [show len + (m - len) = m by omega] at hw
      exact hw.1
    refine ⟨⟨some a, len, m⟩, (List.range len).map Z, rfl, ⟨by simp, hl, fun hp => ?_⟩, ?_, Nat.le_trans (Nat.mul_le_mul_right _ hl) hb, hb⟩
    · have hs := World.cell?_spot (hx 0 (by simp only at hp; omega)).1
      obtain ⟨b, o, spot⟩ := a
      simp only [Addr.add] at hs
      subst hs
      refine ⟨b, o, rfl, fun i hi => ?_⟩
      simp at hi
      have := hF_cell (hx i (by omega)).1
      rw [(hZ i (by omega)).1] at this
      rw [add_mk] at this
      simpa using this
    · intro z hz
      simp only [List.mem_map, List.mem_range] at hz
      obtain ⟨i, hi, rfl⟩ := hz
      exact (hZ i (by omega)).2
end


theorem cells5 : prog.cellsOf 5 = 1 := by kernel_rfl
theorem cells3 : prog.cellsOf 3 = 1 := by kernel_rfl
theorem cells24 : prog.cellsOf 24 = 2 := by kernel_rfl
theorem cells22 : prog.cellsOf 22 = 1 := by kernel_rfl
theorem wf_i64 {z : Int} (h : (Lit.int .i64 z).wf = true) : -9223372036854775808 ≤ z ∧ z ≤ 9223372036854775807 := bounds_i64 h
theorem wf_u8 {z : Int} (h : (Lit.int .u8 z).wf = true) : 0 ≤ z ∧ z ≤ 255 := bounds_u8 h

section
variable {H : Type} {enc : TypeId × Value → H} {W : World}
/-- A set. -/
theorem open_set {fuel : Nat} {cs : Array Value} {x : DataW H × List MemPlace} (h : DataW.trod enc prog W 0 (fun _ => true) true fuel 24 cs.toList = some x) (hw : (x.1.weights prog 24).all (· ≤ reachBytes) = true) :
    ∃ n, SetV (hF W) cs n := by
  obtain ⟨xs, n, _, rfl, hl, hxl, hf⟩ := DataW.trod_struct underlying24 h
  rw [cells24] at hl
  obtain ⟨cs⟩ := cs
  match cs, hl with
  | [c0, c1], _ =>
  match xs, hxl with
  | [x0, x1], _ =>
  have f0 := hf 0 _ rfl
  have f1 := hf 1 _ rfl
  simp only [cells5, cells22, List.drop_zero, List.drop_succ_cons, List.take_succ_cons, List.take_zero, List.getElem?_cons_zero, List.getElem?_cons_succ] at f0 f1
  obtain ⟨z1, e1, _, w1⟩ := DataW.trod_int underlying5 f1
  cases e1
  have hw0 : (x0.1.weights prog 22).all (· ≤ reachBytes) = true := by
    rw [List.all_eq_true] at hw ⊢
    intro y hy
    refine hw y ?_
    simp only [DataW.weights, underlying24]
    exact DataW.weights_mem_each (j := 0) rfl rfl y hy
  obtain ⟨sl, zs, rfl, hr, _, _, _⟩ := open_row underlying22 underlying5 cells5 f0 hw0
  exact ⟨z1, ⟨⟨sl, zs, rfl, hr⟩, (wf_u8 w1).1, (wf_u8 w1).2⟩⟩
end
end Go.Proofs.Ytafojmoeaneedaa
