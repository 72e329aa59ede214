/-
  Arguments of the laws on diagrams: a diagram.
-/
import Derived.Test.YtafojmoeaneedaaTopd
import Derived.Test.YtafojmoeaneedaaEe
namespace Go.Proofs.Ytafojmoeaneedaa
open Go Go.ChangeShapes Go.WideShapes Go.ChangeAt Go.RowKit Go.Deep Go.Proofs.Try
set_option maxRecDepth 10000

theorem cells26 : prog.cellsOf 26 = 1 := by kernel_rfl
theorem cells28 : prog.cellsOf 28 = 2 := by kernel_rfl
theorem cells72 : prog.cellsOf 72 = 3 := by kernel_rfl
instance : Inhabited Br := ⟨⟨0, 0, 0⟩⟩
section
variable {H : Type} {enc : TypeId × Value → H} {W : World}
theorem open_br {fuel : Nat} {cs : List Value} {x : DataW H × List MemPlace} (h : DataW.trod enc prog W 0 (fun _ => true) true fuel 72 cs = some x) : ∃ b : Br, cs = bcells b := by
  obtain ⟨xs, n, _, rfl, hl, hxl, hf⟩ := DataW.trod_struct underlying72 h
  rw [cells72] at hl
  match cs, hl with
  | [c0, c1, c2], _ =>
  match xs, hxl with
  | [x0, x1, x2], _ =>
  have f0 := hf 0 _ rfl
  have f1 := hf 1 _ rfl
  have f2 := hf 2 _ rfl
  simp only [cells3, List.drop_zero, List.drop_succ_cons, List.take_succ_cons, List.take_zero, List.getElem?_cons_zero, List.getElem?_cons_succ] at f0 f1 f2
  obtain ⟨z0, e0, _⟩ := DataW.trod_int underlying3 f0
  obtain ⟨z1, e1, _⟩ := DataW.trod_int underlying3 f1
  obtain ⟨z2, e2, _⟩ := DataW.trod_int underlying3 f2
  cases e0; cases e1; cases e2
  exact ⟨⟨z0, z1, z2⟩, rfl⟩
theorem open_brs {fuel : Nat} {c : Value} {x : DataW H × List MemPlace} (h : DataW.trod enc prog W 0 (fun _ => true) true fuel 26 [c] = some x) : ∃ sl bs, c = Sl.v sl ∧ RdS (hF W) sl 3 (bflat bs) := by
  rcases open_slice underlying26 h with ⟨hcs, rfl⟩ | ⟨a, len, cap, m, n, D, Pl, hcs, _, hl, hm, hmm, rfl, hx⟩
  · cases hcs
    exact ⟨Sl.nil, [], rfl, RdS.nil _ _⟩
  · cases hcs
    simp only [if_true] at hmm
    subst hmm
    rw [cells72] at hx
    have ho : ∀ i, i < len → ∃ b : Br, W.cells? 0 (a.add (i * 3)) 3 = some (bcells b) := fun i hi => by
      obtain ⟨cs, h1, h2⟩ := hx i (by omega)
      obtain ⟨b, rfl⟩ := open_br h2
      exact ⟨b, h1⟩
    obtain ⟨O, hO⟩ := choose_lt ho
    refine ⟨⟨some a, len, m⟩, (List.range len).map O, rfl, ⟨by rw [bflat_length]; simp, hl, fun hp => ?_⟩⟩
    simp only at hp
    have h0 := (World.cells?_some (hO 0 (by omega))).2.2 0 (by omega)
    have hs := World.cell?_spot (v := vi (O 0).v) (by rw [h0]; rfl)
    obtain ⟨b, o, spot⟩ := a
    simp [Addr.add] at hs
    subst hs
    refine ⟨b, o, rfl, fun i hi => ?_⟩
    have hi' : i < len * 3 := by rw [bflat_length] at hi; simpa using hi
    have hi3 : i / 3 < len := by omega
    have h1 := (World.cells?_some (hO (i / 3) hi3)).2.2 (i % 3) (by omega)
    have h2 := bflat_get ((List.range len).map O) (i / 3) (by simpa using hi3)
    have h3 : (bflat ((List.range len).map O))[i]? = (bcells (O (i / 3)))[i % 3]? := by
      have := congrArg (fun l => l[i % 3]?) h2
      simp only [List.getElem?_take_of_lt (show i % 3 < 3 by omega), List.getElem?_drop, List.getElem_map, List.getElem_range] at this
      rw [show i / 3 * 3 + i % 3 = i by omega] at this
      exact this
    rw [← List.getElem?_eq_getElem, h3, ← h1]
    rw [add_mk, add_mk, show o + i / 3 * 3 + i % 3 = o + i by omega]
    rfl
/-- A diagram. -/
theorem open_dia {fuel : Nat} {cs : Array Value} {x : DataW H × List MemPlace} (h : DataW.trod enc prog W 0 (fun _ => true) true fuel 28 cs.toList = some x) (_ : (x.1.weights prog 28).all (· ≤ reachBytes) = true) :
    ∃ d, DV (hF W) cs d := by
  obtain ⟨xs, n, _, rfl, hl, hxl, hf⟩ := DataW.trod_struct underlying28 h
  rw [cells28] at hl
  obtain ⟨cs⟩ := cs
  match cs, hl with
  | [c0, c1], _ =>
  match xs, hxl with
  | [x0, x1], _ =>
  have f0 := hf 0 _ rfl
  have f1 := hf 1 _ rfl
  simp only [cells3, cells26, List.drop_zero, List.drop_succ_cons, List.take_succ_cons, List.take_zero, List.getElem?_cons_zero, List.getElem?_cons_succ] at f0 f1
  obtain ⟨z1, e1, _⟩ := DataW.trod_int underlying3 f1
  cases e1
  obtain ⟨sl, bs, rfl, hr⟩ := open_brs f0
  exact ⟨(bs, z1), sl, rfl, hr⟩
end
end Go.Proofs.Ytafojmoeaneedaa
