/-
  Arguments of the store's laws: rows of numbers, operations and failures, opened.
-/
import Derived.Test.YtelkfnmdnbbniaaTop
import Derived.Test.YtelkfnmdnbbniaaWt
namespace Go.Proofs.Ytelkfnmdnbbniaa
open Go Go.ChangeShapes Go.WideShapes Go.ChangeAt Go.RowKit Go.Deep Go.Proofs.Try
set_option maxRecDepth 100000
section
variable {H : Type} {enc : TypeId × Value → H} {P : Program} {W : World}
theorem open_row {t e fuel : Nat} {k : IntKind} {c : Value} {x : DataW H × List MemPlace} (ht : P.underlying t = some (.slice e)) (he : P.underlying e = some (.int k)) (hc : P.cellsOf e = 1)
  (h : DataW.trod enc P W 0 (fun _ => true) true fuel t [c] = some x) (hw : (x.1.weights P t).all (· ≤ reachBytes) = true) :
  ∃ (sl : Sl) (zs : List Int), c = Sl.v sl ∧ RdS (hF W) sl 1 (zs.map (Value.int k)) ∧ (∀ z ∈ zs, (Lit.int k z).wf = true) ∧ sl.len * P.bytesOf e ≤ reachBytes ∧ sl.cap * P.bytesOf e ≤ reachBytes := by
 rcases open_slice1 ht hc h with ⟨hcs, rfl⟩ | ⟨a, len, cap, m, n, V, D, Pl, hcs, _, hl, hm, hmm, rfl, hx⟩
 ·cases hcs
  exact ⟨Sl.nil, [], rfl, RdS.nil _ _, by simp, by simp [Sl.nil], by simp [Sl.nil]⟩
 ·cases hcs
  simp only [if_true] at hmm
  subst hmm
  have hz : ∀ i, i < m → ∃ z, V i = .int k z ∧ (Lit.int k z).wf = true := fun i hi => by
   obtain ⟨z, h1, _, h3⟩ := DataW.trod_int he (hx i hi).2
   exact ⟨z, by simpa using h1, h3⟩
  obtain ⟨Z, hZ⟩ := choose_lt hz
  have hb : m * P.bytesOf e ≤ reachBytes := by
   simp only [DataW.weights, ht, List.all_cons, Bool.and_eq_true, decide_eq_true_eq, List.length_map, List.length_range] at hw
   rw [show len + (m - len) = m by omega] at hw
   exact hw.1
  refine ⟨⟨some a, len, m⟩, (List.range len).map Z, rfl, ⟨by simp, hl, fun hp => ?_⟩, ?_, Nat.le_trans (Nat.mul_le_mul_right _ hl) hb, hb⟩
  ·have hs := World.cell?_spot (hx 0 (by simp only at hp; omega)).1
   obtain ⟨b, o, spot⟩ := a
   simp only [Addr.add] at hs
   subst hs
   refine ⟨b, o, rfl, fun i hi => ?_⟩
   simp at hi
   have := hF_cell (hx i (by omega)).1
   rw [(hZ i (by omega)).1] at this
   rw [add_mk] at this
   simpa using this
  ·intro z hz
   simp only [List.mem_map, List.mem_range] at hz
   obtain ⟨i, hi, rfl⟩ := hz
   exact (hZ i (by omega)).2
theorem flat_atG {α : Type} {cells : α → List Value} {k : Nat} (hk : ∀ o, (cells o).length = k) : ∀ {os : List α} {i j : Nat}, j < k → (os.flatMap cells)[i * k + j]? = (os[i]?).bind fun o => (cells o)[j]?
 | [], i, j, _ => by simp
 | o :: os, 0, j, hj => by
  rw [List.flatMap_cons, Nat.zero_mul, Nat.zero_add, List.getElem?_append_left (by rw [hk]; exact hj)]
  rfl
 | o :: os, i + 1, j, hj => by
  rw [List.flatMap_cons, List.getElem?_append_right (by rw [hk, Nat.succ_mul]; omega), hk, show (i + 1) * k + j - k = i * k + j by rw [Nat.succ_mul]; omega, flat_atG hk hj]
  rfl
theorem flatMap_len {α : Type} {cells : α → List Value} {k : Nat} (hk : ∀ o, (cells o).length = k) : ∀ os : List α, (os.flatMap cells).length = os.length * k
 | [] => by simp
 | o :: os => by rw [List.flatMap_cons, List.length_append, hk, flatMap_len hk os, List.length_cons, Nat.succ_mul, Nat.add_comm]
theorem open_rows {α : Type} [Inhabited α] {t e k : Nat} {cells : α → List Value} {Q : α → Prop} (ht : P.underlying t = some (.slice e)) (hk : P.cellsOf e = k) (hk0 : 0 < k) (hlen : ∀ o, (cells o).length = k)
  (elem : ∀ {fuel : Nat} {cs : List Value} {x : DataW H × List MemPlace}, DataW.trod enc P W 0 (fun _ => true) true fuel e cs = some x → (x.1.weights P e).all (· ≤ reachBytes) = true → ∃ o, cs = cells o ∧ Q o)
  {fuel : Nat} {c : Value} {x : DataW H × List MemPlace} (h : DataW.trod enc P W 0 (fun _ => true) true fuel t [c] = some x) (hw : (x.1.weights P t).all (· ≤ reachBytes) = true) :
  ∃ (sl : Sl) (os : List α), c = Sl.v sl ∧ RdS (hF W) sl k (os.flatMap cells) ∧ (∀ o ∈ os, Q o) ∧ os.length = sl.len ∧ sl.len * P.bytesOf e ≤ reachBytes := by
 rcases open_slice ht h with ⟨hcs, rfl⟩ | ⟨a, len, cap, m, n, D, Pl, hcs, _, hl, hm, hmm, rfl, hx⟩
 ·cases hcs
  exact ⟨Sl.nil, [], rfl, RdS.nil _ _, by simp, rfl, by simp [Sl.nil]⟩
 ·cases hcs
  simp only [if_true] at hmm
  subst hmm
  rw [hk] at hx
  have hwD : ∀ i, i < len → ((D i).weights P e).all (· ≤ reachBytes) = true := fun i hi => by
   rw [List.all_eq_true] at hw ⊢
   intro y hy
   refine hw y ?_
   simp only [DataW.weights, ht]
   refine List.mem_cons_of_mem _ (List.mem_append_left _ ?_)
   have gen : ∀ (l : List (DataW H)) (d : DataW H), d ∈ l → ∀ y ∈ d.weights P e, y ∈ DataW.weightsAll P e l := by
    intro l
    induction l with
    | nil => intro d hd; cases hd
    | cons a l ih =>
     intro d hd y hy
     simp only [DataW.weightsAll, List.mem_append]
     rcases List.mem_cons.1 hd with rfl | hd
     ·exact .inl hy
     ·exact .inr (ih d hd y hy)
   exact gen _ (D i) (List.mem_map.2 ⟨i, List.mem_range.2 hi, rfl⟩) y hy
  have hb : m * P.bytesOf e ≤ reachBytes := by
   simp only [DataW.weights, ht, List.all_cons, Bool.and_eq_true, decide_eq_true_eq, List.length_map, List.length_range] at hw
   rw [show len + (m - len) = m by omega] at hw
   exact hw.1
  have ho : ∀ i, i < len → ∃ o : α, W.cells? 0 (a.add (i * k)) k = some (cells o) ∧ Q o := fun i hi => by
   obtain ⟨cs, h1, h2⟩ := hx i (by omega)
   obtain ⟨o, rfl, h3⟩ := elem h2 (hwD i hi)
   exact ⟨o, h1, h3⟩
  obtain ⟨O, hO⟩ := choose_lt ho
  refine ⟨⟨some a, len, m⟩, (List.range len).map O, rfl, ⟨?_, hl, fun hp => ?_⟩, ?_, by simp, Nat.le_trans (Nat.mul_le_mul_right _ hl) hb⟩
  ·rw [flatMap_len hlen]; simp
  ·simp only at hp
   have h0 := (World.cells?_some (hO 0 (by omega)).1).2.2 0 hk0
   obtain ⟨v0, hv0⟩ : ∃ v, (cells (O 0))[0]? = some v := ⟨_, List.getElem?_eq_getElem (by rw [hlen]; exact hk0)⟩
   have hs := World.cell?_spot (v := v0) (by rw [h0]; exact hv0)
   obtain ⟨b, o, spot⟩ := a
   simp [Addr.add] at hs
   subst hs
   refine ⟨b, o, rfl, fun i hi => ?_⟩
   rw [flatMap_len hlen, List.length_map, List.length_range] at hi
   have hik : i / k < len := Nat.div_lt_of_lt_mul (by rw [Nat.mul_comm]; exact hi)
   have hr : i % k < k := Nat.mod_lt _ hk0
   have h1 := (World.cells?_some (hO (i / k) hik).1).2.2 (i % k) hr
   have h2 := flat_atG hlen (os := (List.range len).map O) (i := i / k) (j := i % k) hr
   have hdm : i / k * k + i % k = i := by rw [Nat.mul_comm]; exact Nat.div_add_mod i k
   rw [hdm] at h2
   rw [← List.getElem?_eq_getElem, h2]
   simp only [List.getElem?_map, List.getElem?_range hik, Option.map_some, Option.bind_some]
   rw [← h1, add_mk, add_mk, Nat.add_assoc, hdm]
   rfl
  ·intro o ho
   obtain ⟨i, hi, rfl⟩ := List.mem_map.1 ho
   exact (hO i (List.mem_range.1 hi)).2
end
section
variable {H : Type} {enc : TypeId × Value → H} {W : World}
instance : Inhabited OpS := ⟨⟨0, Sl.nil, []⟩⟩
theorem cells38 : prog.cellsOf 38 = 2 := by kernel_rfl
theorem cells44 : prog.cellsOf 44 = 3 := by kernel_rfl
theorem cells36 : prog.cellsOf 36 = 1 := by kernel_rfl
theorem cells39 : prog.cellsOf 39 = 1 := by kernel_rfl
theorem cells66 : prog.cellsOf 66 = 2 := by kernel_rfl
theorem cells5 : prog.cellsOf 5 = 1 := by kernel_rfl
theorem bytes38 : prog.bytesOf 38 = 32 := by kernel_rfl
theorem wf_u8 {z : Int} (h : (Lit.int .u8 z).wf = true) : 0 ≤ z ∧ z ≤ 255 := bounds_u8 h
theorem open_item {fuel : Nat} {cs : List Value} {x : DataW H × List MemPlace} (h : DataW.trod enc prog W 0 (fun _ => true) true fuel 44 cs = some x) (_hw : (x.1.weights prog 44).all (· ≤ reachBytes) = true) :
  ∃ i : Itm, cs = [.int .u8 i.1, .int .u8 i.2.1, .int .u8 i.2.2] ∧ ItOk i := by
 obtain ⟨xs, n, _, rfl, hl, hxl, hf⟩ := DataW.trod_struct underlying44 h
 rw [cells44] at hl
 match cs, hl with
 | [c0, c1, c2], _ =>
 match xs, hxl with
 | [x0, x1, x2], _ =>
 have f0 := hf 0 _ rfl
 have f1 := hf 1 _ rfl
 have f2 := hf 2 _ rfl
 simp only [cells5, List.drop_zero, List.drop_succ_cons, List.take_succ_cons, List.take_zero, List.getElem?_cons_zero, List.getElem?_cons_succ] at f0 f1 f2
 obtain ⟨z0, e0, _, w0⟩ := DataW.trod_int underlying5 f0
 obtain ⟨z1, e1, _, w1⟩ := DataW.trod_int underlying5 f1
 obtain ⟨z2, e2, _, w2⟩ := DataW.trod_int underlying5 f2
 cases e0; cases e1; cases e2
 exact ⟨(z0, z1, z2), rfl, wf_u8 w0, wf_u8 w1, wf_u8 w2⟩
theorem open_op {fuel : Nat} {cs : List Value} {x : DataW H × List MemPlace} (h : DataW.trod enc prog W 0 (fun _ => true) true fuel 38 cs = some x) (hw : (x.1.weights prog 38).all (· ≤ reachBytes) = true) :
  ∃ o : OpS, cs = [.int .u8 o.kind, o.sl.v] ∧ OpRd (hF W) o := by
 obtain ⟨xs, n, _, rfl, hl, hxl, hf⟩ := DataW.trod_struct underlying38 h
 rw [cells38] at hl
 match cs, hl with
 | [c0, c1], _ =>
 match xs, hxl with
 | [x0, x1], _ =>
 have f0 := hf 0 _ rfl
 have f1 := hf 1 _ rfl
 simp only [cells5, cells36, List.drop_zero, List.drop_succ_cons, List.take_succ_cons, List.take_zero, List.getElem?_cons_zero, List.getElem?_cons_succ] at f0 f1
 obtain ⟨z0, e0, _, w0⟩ := DataW.trod_int underlying5 f0
 cases e0
 have hw1 : (x1.1.weights prog 36).all (· ≤ reachBytes) = true := by
  rw [List.all_eq_true] at hw ⊢
  intro y hy
  refine hw y ?_
  simp only [DataW.weights, underlying38]
  exact DataW.weights_mem_each (j := 1) rfl rfl y hy
 obtain ⟨sl, its, rfl, hr, hq, _, _⟩ := open_rows (k := 3) (cells := fun i : Itm => [.int .u8 i.1, .int .u8 i.2.1, .int .u8 i.2.2]) (Q := ItOk) underlying36 cells44 (by decide) (fun _ => rfl) open_item f1 hw1
 exact ⟨⟨z0, sl, its⟩, rfl, wf_u8 w0, hr, hq⟩
theorem open_ops {fuel : Nat} {c : Value} {x : DataW H × List MemPlace} (h : DataW.trod enc prog W 0 (fun _ => true) true fuel 22 [c] = some x) (hw : (x.1.weights prog 22).all (· ≤ reachBytes) = true) :
  ∃ sl ops, c = Sl.v sl ∧ OpsRd (hF W) sl ops := by
 obtain ⟨sl, ops, rfl, hr, hq, hl, hb⟩ := open_rows (k := 2) (cells := fun o : OpS => [.int .u8 o.kind, o.sl.v]) (Q := OpRd (hF W)) underlying22 cells38 (by decide) (fun _ => rfl) open_op h hw
 rw [bytes38] at hb
 unfold reachBytes at hb
 exact ⟨sl, ops, rfl, hr, hq, by omega⟩
end
end Go.Proofs.Ytelkfnmdnbbniaa
