/-
  Arguments of the store's laws: a failure, of bounded bulk.
-/
import Derived.Test.YtelkfnmdnbbniaaTopv
import Derived.Deep.CondSized
namespace Go.Proofs.Ytelkfnmdnbbniaa
open Go Go.ChangeShapes Go.WideShapes Go.ChangeAt Go.RowKit Go.Deep Go.Proofs.Try
set_option maxRecDepth 100000
section
variable {H : Type} {enc : TypeId × Value → H} {P : Program} {W : World}
theorem bulk_one (d : DataW H) : 1 ≤ Rows.uptoBulk d := by
 cases d with
 | lit l => cases l <;> simp [Rows.uptoBulk]
 | nil => simp [Rows.uptoBulk]
 | ptr d => simp [Rows.uptoBulk]
 | slice elems spare => simp [Rows.uptoBulk]
 | agg parts => simp [Rows.uptoBulk]
 | iface t d => simp [Rows.uptoBulk]
 | map entries => simp [Rows.uptoBulk]
 | held h => simp [Rows.uptoBulk]
theorem bulk_part {d : DataW H} {l : List (DataW H)} (h : d ∈ l) : Rows.uptoBulk d ≤ Rows.uptoBulkAll l := by
 induction l with
 | nil => cases h
 | cons x r ih =>
  simp only [Rows.uptoBulkAll]
  cases List.mem_cons.1 h with
  | inl e => subst e; omega
  | inr e => have := ih e; omega
theorem bulk_len (l : List (DataW H)) : l.length ≤ Rows.uptoBulkAll l := by
 induction l with
 | nil => simp [Rows.uptoBulkAll]
 | cons x r ih => have := bulk_one x; simp only [Rows.uptoBulkAll, List.length_cons]; omega
theorem short {d : DataW H} {l : List (DataW H)} (h : d ∈ l) (hk : Rows.uptoSmall H l = true) : Rows.uptoBulk d ≤ 1048576 :=
 Nat.le_trans (bulk_part h) (of_decide_eq_true hk)
theorem row_bulk {t e fuel : Nat} {sl : Sl} {x : DataW H × List MemPlace} (ht : P.underlying t = some (.slice e))
  (h : DataW.trod enc P W 0 (fun _ => true) true fuel t [Sl.v sl] = some x) : sl.len ≤ Rows.uptoBulk x.1 := by
 rcases open_slice ht h with ⟨hcs, rfl⟩ | ⟨a, len, cap, m, n, D, Pl, hcs, _, hl, hm, hmm, rfl, hx⟩
 ·obtain ⟨b, l, c⟩ := sl
  cases b with
  | none => cases hcs; exact Nat.zero_le _
  | some b => cases hcs
 ·obtain ⟨b, l, c⟩ := sl
  cases b with
  | none => cases hcs
  | some b =>
   cases hcs
   simp only [Rows.uptoBulk]
   have := bulk_len ((List.range l).map D)
   simp only [List.length_map, List.length_range] at this
   omega
theorem open_failU {fuel : Nat} {cs : Array Value} {x : DataW H × List MemPlace} (h : DataW.trod enc prog W 0 (fun _ => true) true fuel 66 cs.toList = some x) (hw : (x.1.weights prog 66).all (· ≤ reachBytes) = true) (hk : Rows.uptoBulk x.1 ≤ 1048576) :
  ∃ (z : Int) (sl : Sl) (zs : List Int), cs = #[.int .u8 z, sl.v] ∧ (0 ≤ z ∧ z ≤ 255) ∧ RdS (hF W) sl 1 (u8s zs) ∧ (∀ y ∈ zs, 0 ≤ y ∧ y ≤ 255) ∧ zs.length ≤ 1048576 := by
 obtain ⟨xs, n, _, rfl, hl, hxl, hf⟩ := DataW.trod_struct underlying66 h
 rw [cells66] at hl
 obtain ⟨cs⟩ := cs
 match cs, hl with
 | [c0, c1], _ =>
 match xs, hxl with
 | [x0, x1], _ =>
 have f0 := hf 0 _ rfl
 have f1 := hf 1 _ rfl
 simp only [cells5, cells39, List.drop_zero, List.drop_succ_cons, List.take_succ_cons, List.take_zero, List.getElem?_cons_zero, List.getElem?_cons_succ] at f0 f1
 obtain ⟨z0, e0, _, w0⟩ := DataW.trod_int underlying5 f0
 cases e0
 have hw1 : (x1.1.weights prog 39).all (· ≤ reachBytes) = true := by
  rw [List.all_eq_true] at hw ⊢
  intro y hy
  refine hw y ?_
  simp only [DataW.weights, underlying66]
  exact DataW.weights_mem_each (j := 1) rfl rfl y hy
 obtain ⟨sl, zs, rfl, hr, hz, _, _⟩ := open_row underlying39 underlying5 cells5 f1 hw1
 have hb := row_bulk underlying39 f1
 have hb2 : Rows.uptoBulk x1.1 ≤ 1048576 := by
  refine Nat.le_trans ?_ hk
  simp only [List.map_cons, List.map_nil, Rows.uptoBulk, Rows.uptoBulkAll]
  omega
 have hu := hr.ulen
 exact ⟨z0, sl, zs, rfl, wf_u8 w0, hr, fun y hy => wf_u8 (hz y hy), by omega⟩
end
end Go.Proofs.Ytelkfnmdnbbniaa
