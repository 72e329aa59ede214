/-
  Arguments of the disk laws: rows of numbers and of operations, opened.
-/
import Derived.Test.YthnolhcknhhipaaTop
import Derived.Test.YthnolhcknhhipaaDh
namespace Go.Proofs.Ythnolhcknhhipaa
open Go Go.ChangeShapes Go.WideShapes Go.ChangeAt Go.RowKit Go.Deep Go.Proofs.Try

section
variable {H : Type} {enc : TypeId × Value → H} {P : Program} {W : World}

theorem fuel_some {t : TypeId} {v : Value} {d : DataW H} {ps : List MemPlace} (h : DataW.Trod enc P W 0 (fun _ => true) true t v d ps) : ∃ fuel, DataW.trod enc P W 0 (fun _ => true) true fuel t v.cells.toList = some (d, ps) := h

/-- A row of numbers. -/
theorem open_row {t e fuel : Nat} {k : IntKind} {c : Value} {x : DataW H × List MemPlace} (ht : P.underlying t = some (.slice e)) (he : P.underlying e = some (.int k)) (hc : P.cellsOf e = 1)
    (h : DataW.trod enc P W 0 (fun _ => true) true fuel t [c] = some x) (hw : (x.1.weights P t).all (· ≤ reachBytes) = true) :
    ∃ (sl : Sl) (zs : List Int), c = Sl.v sl ∧ RdS (hF W) sl 1 (zs.map (Value.int k)) ∧ (∀ z ∈ zs, (Lit.int k z).wf = true) ∧ sl.len * P.bytesOf e ≤ reachBytes ∧ sl.cap * P.bytesOf e ≤ reachBytes := by
  rcases open_slice1 ht hc h with ⟨hcs, rfl⟩ | ⟨a, len, cap, m, n, V, D, Pl, hcs, _, hl, hm, hmm, rfl, hx⟩
  · cases hcs
    exact ⟨Sl.nil, [], rfl, RdS.nil _ _, by simp, by simp [Sl.nil], by simp [Sl.nil]⟩
  · cases hcs
    simp only [if_true] at hmm
    subst hmm
    have hz : ∀ i, i < m → ∃ z, V i = .int k z ∧ (Lit.int k z).wf = true := fun i hi => by
      obtain ⟨z, h1, _, h3⟩ := DataW.trod_int he (hx i hi).2
      exact ⟨z, by simpa using h1, h3⟩
    obtain ⟨Z, hZ⟩ := choose_lt hz
    have hb : m * P.bytesOf e ≤ reachBytes := by
      simp only [DataW.weights, ht, List.all_cons, Bool.and_eq_true, decide_eq_true_eq, List.length_map, List.length_range] at hw
      rw [show len + (m - len) = m by omega] at hw
      exact hw.1
    refine ⟨⟨some a, len, m⟩, (List.range len).map Z, rfl, ⟨by simp, hl, fun hp => ?_⟩, ?_, Nat.le_trans (Nat.mul_le_mul_right _ hl) hb, hb⟩
    · have hs := World.cell?_spot (hx 0 (by simp only at hp; omega)).1
      obtain ⟨b, o, spot⟩ := a
      simp only [Addr.add] at hs
      subst hs
      refine ⟨b, o, rfl, fun i hi => ?_⟩
      simp at hi
      have := hF_cell (hx i (by omega)).1
      rw [(hZ i (by omega)).1] at this
      rw [add_mk] at this
      simpa using this
    · intro z hz
      simp only [List.mem_map, List.mem_range] at hz
      obtain ⟨i, hi, rfl⟩ := hz
      exact (hZ i (by omega)).2
end

section
variable {H : Type} {enc : TypeId × Value → H} {W : World}
instance : Inhabited OpD := ⟨⟨0, 0, 0, 0, Sl.nil, []⟩⟩
theorem cells40 : prog.cellsOf 40 = 5 := by kernel_rfl
theorem cells5 : prog.cellsOf 5 = 1 := by kernel_rfl
theorem cells3 : prog.cellsOf 3 = 1 := by kernel_rfl
theorem cells37 : prog.cellsOf 37 = 1 := by kernel_rfl
theorem bytes3 : prog.bytesOf 3 = 8 := by kernel_rfl
theorem bytes5 : prog.bytesOf 5 = 1 := by kernel_rfl
theorem bytes40 : prog.bytesOf 40 = 56 := by kernel_rfl

theorem wf_i64 {z : Int} (h : (Lit.int .i64 z).wf = true) : -9223372036854775808 ≤ z ∧ z ≤ 9223372036854775807 := bounds_i64 h
theorem wf_u8 {z : Int} (h : (Lit.int .u8 z).wf = true) : 0 ≤ z ∧ z ≤ 255 := bounds_u8 h

theorem open_op {fuel : Nat} {cs : List Value} {x : DataW H × List MemPlace} (h : DataW.trod enc prog W 0 (fun _ => true) true fuel 40 cs = some x) (hw : (x.1.weights prog 40).all (· ≤ reachBytes) = true) :
    ∃ o : OpD, cs = o.cells ∧ RdS (hF W) o.ksl 1 (i64s o.kept) ∧ o.ksl.len * 8 ≤ 140737488355328 ∧ (0 ≤ o.kind ∧ o.kind ≤ 255) ∧ (-9223372036854775808 ≤ o.at_ ∧ o.at_ ≤ 9223372036854775807) ∧ (-9223372036854775808 ≤ o.long ∧ o.long ≤ 9223372036854775807) := by
  obtain ⟨xs, n, _, rfl, hl, hxl, hf⟩ := DataW.trod_struct underlying40 h
  rw [cells40] at hl
  match cs, hl with
  | [c0, c1, c2, c3, c4], _ =>
  match xs, hxl with
  | [x0, x1, x2, x3, x4], _ =>
  have f0 := hf 0 _ rfl
  have f1 := hf 1 _ rfl
  have f2 := hf 2 _ rfl
  have f3 := hf 3 _ rfl
  have f4 := hf 4 _ rfl
  simp only [cells5, cells3, cells37, List.drop_zero, List.drop_succ_cons, List.take_succ_cons, List.take_zero, List.getElem?_cons_zero, List.getElem?_cons_succ] at f0 f1 f2 f3 f4
  obtain ⟨z0, e0, _, w0⟩ := DataW.trod_int underlying5 f0
  obtain ⟨z1, e1, _, w1⟩ := DataW.trod_int underlying3 f1
  obtain ⟨z2, e2, _, w2⟩ := DataW.trod_int underlying5 f2
  obtain ⟨z3, e3, _, w3⟩ := DataW.trod_int underlying3 f3
  cases e0; cases e1; cases e2; cases e3
  have hw4 : (x4.1.weights prog 37).all (· ≤ reachBytes) = true := by
    rw [List.all_eq_true] at hw ⊢
    intro y hy
    refine hw y ?_
    simp only [DataW.weights, underlying40]
    exact DataW.weights_mem_each (j := 4) rfl rfl y hy
  obtain ⟨sl, zs, rfl, hr, _, hb, _⟩ := open_row underlying37 underlying3 cells3 f4 hw4
  rw [bytes3] at hb
  unfold reachBytes at hb
  exact ⟨⟨z0, z1, z2, z3, sl, zs⟩, rfl, hr, by show sl.len * 8 ≤ _; omega, wf_u8 w0, wf_i64 w1, wf_i64 w3⟩

theorem open_ops {fuel : Nat} {c : Value} {x : DataW H × List MemPlace} (h : DataW.trod enc prog W 0 (fun _ => true) true fuel 22 [c] = some x) (hw : (x.1.weights prog 22).all (· ≤ reachBytes) = true) :
    ∃ sl ops, c = Sl.v sl ∧ OpsRd (hF W) sl ops := by
  rcases open_slice underlying22 h with ⟨hcs, rfl⟩ | ⟨a, len, cap, m, n, D, Pl, hcs, _, hl, hm, hmm, rfl, hx⟩
  · cases hcs
    exact ⟨Sl.nil, [], rfl, RdS.nil _ _, rfl, by simp, by simp, by simp, by simp, by simp, by simp⟩
  · cases hcs
    simp only [if_true] at hmm
    subst hmm
    rw [cells40] at hx
    have hwD : ∀ i, i < len → ((D i).weights prog 40).all (· ≤ reachBytes) = true := fun i hi => by
      rw [List.all_eq_true] at hw ⊢
      intro y hy
      refine hw y ?_
      simp only [DataW.weights, underlying22]
      refine List.mem_cons_of_mem _ (List.mem_append_left _ ?_)
      have gen : ∀ (l : List (DataW H)) (d : DataW H), d ∈ l → ∀ y ∈ d.weights prog 40, y ∈ DataW.weightsAll prog 40 l := by
        intro l
        induction l with
        | nil => intro d hd; cases hd
        | cons a l ih =>
          intro d hd y hy
          simp only [DataW.weightsAll, List.mem_append]
          rcases List.mem_cons.1 hd with rfl | hd
          · exact .inl hy
          · exact .inr (ih d hd y hy)
      exact gen _ (D i) (List.mem_map.2 ⟨i, List.mem_range.2 hi, rfl⟩) y hy
    have hb : m * 56 ≤ reachBytes := by
      simp only [DataW.weights, underlying22, List.all_cons, Bool.and_eq_true, decide_eq_true_eq, List.length_map, List.length_range, bytes40] at hw
      rw [show len + (m - len) = m by omega] at hw
      exact hw.1
    unfold reachBytes at hb
    have ho : ∀ i, i < len → ∃ o : OpD, W.cells? 0 (a.add (i * 5)) 5 = some o.cells ∧ RdS (hF W) o.ksl 1 (i64s o.kept) ∧ o.ksl.len * 8 ≤ 140737488355328 ∧ (0 ≤ o.kind ∧ o.kind ≤ 255) ∧ (-9223372036854775808 ≤ o.at_ ∧ o.at_ ≤ 9223372036854775807) ∧ (-9223372036854775808 ≤ o.long ∧ o.long ≤ 9223372036854775807) := fun i hi => by
      obtain ⟨cs, h1, h2⟩ := hx i (by omega)
      obtain ⟨o, rfl, h3⟩ := open_op h2 (hwD i hi)
      exact ⟨o, h1, h3⟩
    obtain ⟨O, hO⟩ := choose_lt ho
    have hmem : ∀ o ∈ (List.range len).map O, ∃ i, i < len ∧ O i = o := fun o ho => by
      simp only [List.mem_map, List.mem_range] at ho
      exact ho
    have hlen5 : ∀ k, k ≤ len → (((List.range k).map O).flatMap OpD.cells).length = k * 5 := by
      intro k
      induction k with
      | zero => intro _; rfl
      | succ k ih =>
        intro hk
        rw [List.range_succ, List.map_append, List.flatMap_append, List.length_append, ih (by omega)]
        simp [OpD.cells]
        omega
    refine ⟨⟨some a, len, m⟩, (List.range len).map O, rfl, ⟨hlen5 len (Nat.le_refl _), hl, fun hp => ?_⟩, by simp, ?_, ?_, ?_, ?_, ?_, by simp; omega⟩
    · simp only at hp
      have h0 := (World.cells?_some (hO 0 (by omega)).1).2.2 0 (by omega)
      have hs := World.cell?_spot (v := .int .u8 (O 0).kind) (by rw [h0]; rfl)
      obtain ⟨b, o, spot⟩ := a
      simp [Addr.add] at hs
      subst hs
      refine ⟨b, o, rfl, fun i hi => ?_⟩
      rw [hlen5 len (Nat.le_refl _)] at hi
      have hi5 : i / 5 < len := by omega
      have h1 := (World.cells?_some (hO (i / 5) hi5).1).2.2 (i % 5) (by omega)
      have h2 := ops_at (ops := (List.range len).map O) (k := i / 5) (j := i % 5) (by simpa using hi5) (by omega)
      rw [show i / 5 * 5 + i % 5 = i by omega] at h2
      rw [← List.getElem?_eq_getElem, h2]
      simp only [List.getElem_map, List.getElem_range]
      rw [← h1]
      rw [add_mk, add_mk, show o + i / 5 * 5 + i % 5 = o + i by omega]
      rfl
    · intro o ho; obtain ⟨i, hi, rfl⟩ := hmem o ho; exact (hO i hi).2.1
    · intro o ho; obtain ⟨i, hi, rfl⟩ := hmem o ho; exact (hO i hi).2.2.1
    · intro o ho; obtain ⟨i, hi, rfl⟩ := hmem o ho; exact (hO i hi).2.2.2.1
    · intro o ho; obtain ⟨i, hi, rfl⟩ := hmem o ho; exact (hO i hi).2.2.2.2.1
    · intro o ho; obtain ⟨i, hi, rfl⟩ := hmem o ho; exact (hO i hi).2.2.2.2.2
end
end Go.Proofs.Ythnolhcknhhipaa
