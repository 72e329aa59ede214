/-
  Arguments that are rows of bytes, opened.
-/
import Derived.Test.YtnjcgpihfmklfaaDoorTopg
namespace Go.Proofs.YtnjcgpihfmklfaaDoor
open Go Go.ChangeShapes Go.WideShapes Go.ChangeAt Go.RowKit Go.Deep Go.Proofs.Tryd
set_option maxRecDepth 10000

section
variable {H : Type} {enc : TypeId × Value → H} {P : Program} {W : World}

theorem fuel_some {t : TypeId} {v : Value} {d : DataW H} {ps : List MemPlace} (h : DataW.Trod enc P W 0 (fun _ => true) true t v d ps) : ∃ fuel, DataW.trod enc P W 0 (fun _ => true) true fuel t v.cells.toList = some (d, ps) := h

/-- A row of numbers. -/
theorem open_row {t e fuel : Nat} {k : IntKind} {c : Value} {x : DataW H × List MemPlace} (ht : P.underlying t = some (.slice e)) (he : P.underlying e = some (.int k)) (hc : P.cellsOf e = 1)
    (h : DataW.trod enc P W 0 (fun _ => true) true fuel t [c] = some x) (hw : (x.1.weights P t).all (· ≤ reachBytes) = true) :
    ∃ (sl : Sl) (zs : List Int), c = Sl.v sl ∧ RdS (hF W) sl 1 (zs.map (Value.int k)) ∧ (∀ z ∈ zs, (Lit.int k z).wf = true) ∧ sl.len * P.bytesOf e ≤ reachBytes ∧ sl.cap * P.bytesOf e ≤ reachBytes := by
  rcases open_slice1 ht hc h with ⟨hcs, rfl⟩ | ⟨a, len, cap, m, n, V, D, Pl, hcs, _, hl, hm, hmm, rfl, hx⟩
  · cases hcs
    exact ⟨Sl.nil, [], rfl, RdS.nil _ _, by simp, by simp [Sl.nil], by simp [Sl.nil]⟩
  · cases hcs
    simp only [if_true] at hmm
    subst hmm
    have hz : ∀ i, i < m → ∃ z, V i = .int k z ∧ (Lit.int k z).wf = true := fun i hi => by
      obtain ⟨z, h1, _, h3⟩ := DataW.trod_int he (hx i hi).2
      exact ⟨z, by simpa using h1, h3⟩
    obtain ⟨Z, hZ⟩ := choose_lt hz
    have hb : m * P.bytesOf e ≤ reachBytes := by
      simp only [DataW.weights, ht, List.all_cons, Bool.and_eq_true, decide_eq_true_eq, List.length_map, List.length_range] at hw
      rw [show len + (m - len) = m by omega] at hw
      exact hw.1
    refine ⟨⟨some a, len, m⟩, (List.range len).map Z, rfl, ⟨by simp, hl, fun hp => ?_⟩, ?_, Nat.le_trans (Nat.mul_le_mul_right _ hl) hb, hb⟩
    · have hs := World.cell?_spot (hx 0 (by simp only at hp; omega)).1
      obtain ⟨b, o, spot⟩ := a
      simp only [Addr.add] at hs
      subst hs
      refine ⟨b, o, rfl, fun i hi => ?_⟩
      simp at hi
      have := hF_cell (hx i (by omega)).1
      rw [(hZ i (by omega)).1] at this
      rw [add_mk] at this
      simpa using this
    · intro z hz
      simp only [List.mem_map, List.mem_range] at hz
      obtain ⟨i, hi, rfl⟩ := hz
      exact (hZ i (by omega)).2
end
theorem row_u8 {z : Int} (h : (Lit.int .u8 z).wf = true) : 0 ≤ z ∧ z ≤ 255 := bounds_u8 h
theorem row_len {F : PH} {sl : Sl} {zs : List Int} (h : RdS F sl 1 (zs.map (Value.int .u8))) (hb : sl.len * prog.bytesOf 5 ≤ reachBytes) : zs.length ≤ 9000000000000000 := by
  have := h.len
  rw [List.length_map] at this
  have e : prog.bytesOf 5 = 1 := by kernel_rfl
  have e2 : reachBytes = 140737488351232 := rfl
  rw [e, e2] at hb
  omega
end Go.Proofs.YtnjcgpihfmklfaaDoor
