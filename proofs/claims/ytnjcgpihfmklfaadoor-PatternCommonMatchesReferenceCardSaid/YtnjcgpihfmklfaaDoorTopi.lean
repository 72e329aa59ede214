/-
  Arguments that are lists of nodes, opened.
-/
import Derived.Test.YtnjcgpihfmklfaaDoorRows
import Derived.WalkKit
import Derived.ProofKit
import Derived.OpenShut
import Derived.SizedLaws
import Derived.Carry
import Derived.Deep.Slices
import Derived.Test.YtnjcgpihfmklfaaDoorPhg
import Derived.Test.YtnjcgpihfmklfaaDoorTie
import Derived.Test.YtnjcgpihfmklfaaDoorCards
import Derived.Test.YtnjcgpihfmklfaaDoorQq
import Derived.LaidMore
import Derived.Lay
import Derived.SevenTiedAt
import Derived.Stop.Joined
import Derived.Test.YtnjcgpihfmklfaaDoorQf
namespace Go.Proofs.YtnjcgpihfmklfaaDoor
open Go Go.ChangeShapes Go.WideShapes Go.ChangeAt Go.RowKit
def hF (W : World) : PH := fun b => W.heap[b]?
theorem hF_cell {W : World} {a : Addr} {v : Value} (h : W.cell? a = some v) : (hF W).cell a = some v := h
theorem calls_of_spec {P : Program} {f : FuncId} {args : Array Value} {W : World} (h : Spec P f args (hF W) fun v F' => v = .bool true ∧ (hF W).le F') :
  Calls P f args W fun e W' => e = .returned (.bool true) ∧ Below W.heap.size W W' := by
 refine (h ⟨W.os, W.tape, W.output, fun _ => Option.none⟩ W ⟨rfl, rfl, rfl, fun b o hb => hb, fun b o hb => (by cases hb)⟩).mono ?_
 rintro e W' ⟨v, F', rfl, hs, rfl, hle⟩
 have key : ∀ (k : Nat) (o : Obj), W.heap[k]? = some o → W'.heap[k]? = some o := fun k o hk => hs.heap k o (hle k o hk)
 refine ⟨rfl, hs.os, hs.tape, hs.output, ?_, fun k hk => ?_⟩
 ·rcases Nat.eq_zero_or_pos W.heap.size with h0 | h0
  ·omega
  ·have h1 := key (W.heap.size - 1) _ (Array.getElem?_eq_getElem (by omega))
   have h2 := (Array.getElem?_eq_some_iff.1 h1).1
   omega
 ·rw [Array.getElem?_eq_getElem hk]
  exact key k _ (Array.getElem?_eq_getElem hk)
section
variable {H : Type} {enc : TypeId × Value → H} {P : Program} {W W' : World}
theorem trodAll_stays (hl : laidOutB P = true) {sp : Nat → Bool} (hb : Below W.heap.size W W') : ∀ {ts : List TypeId} {vs : List Value} {ds : List (DataW H)} {ps : List MemPlace},
  ts.all (fun t => P.readableRec t && decide (t < P.types.size)) = true → DataW.TrodAll enc P W 0 (fun _ => true) true ts vs ds ps → (∀ x ∈ ps, x.block < W.heap.size) → (∀ x ∈ ps, sp x.block = true) → DataW.TrodAll enc P W' 0 sp true ts vs ds ps
 | [], vs, ds, ps, _, h, _, _ => by
  obtain ⟨rfl, rfl, rfl⟩ := trodAll_nil h
  rfl
 | t :: ts, vs, ds, ps, ha, h, hlt, hsp => by
  obtain ⟨v, vs', d, ds', p, q, rfl, rfl, rfl, h1, h2⟩ := trodAll_cons h
  rw [List.all_cons, Bool.and_eq_true, Bool.and_eq_true, decide_eq_true_eq] at ha
  obtain ⟨⟨hr, hrow⟩, ha⟩ := ha
  exact ⟨p, q, WideElems.Trod_stays hl hr hrow h1 (fun x hx => hb.same (hlt x (List.mem_append_left _ hx))) (fun x hx => hsp x (List.mem_append_left _ hx)),
   trodAll_stays hl hb ha h2 (fun x hx => hlt x (List.mem_append_right _ hx)) (fun x hx => hsp x (List.mem_append_right _ hx)), rfl⟩
theorem law_close {f : Func} {s : ChangeSpec} {args : Array Value} {ds gs : List (DataW H)} {before : List MemPlace} {tb : TypeId} {fresh : Bool}
  (hl : laidOutB P = true) (hv : s.vars = []) (hW : DataW.Whole enc P f.params.toList s.vars false W args.toList ds gs before) (hall : f.params.toList.all (fun t => P.readableRec t && decide (t < P.types.size)) = true)
  (hr : f.resultTypes = #[tb]) (htb : P.underlying tb = some .bool) (hb : Below W.heap.size W W')
  (hs : s.fn H (ds ++ gs) = { results := [.lit (.bool true)], args := ds }) :
  s.post enc P f false fresh false false W args (.bool true) W' := by
 have hW' := hW
 obtain ⟨p, q, hA, hV, rfl, _, _⟩ := hW
 rw [hv] at hV
 obtain ⟨rfl, rfl⟩ := trodVars_none hV
 have hlt : ∀ x ∈ p, x.block < W.heap.size := fun x hx => by simpa using hW'.lt x (List.mem_append_left _ hx)
 refine ⟨ds, [], p ++ [], [], p, [], hW', ?_, ?_, ?_, hb.frame _, fun h => by cases h⟩
 ·rw [hs, hr]
  exact trodAll_cons_mk (shut_bool htb _) trodAll_mk0
 ·rw [hs]
  exact trodAll_stays hl hb hall hA hlt (fun x hx => by simpa using hlt x hx)
 ·rw [hs, hv]
  rfl
end
end Go.Proofs.YtnjcgpihfmklfaaDoor
namespace Go.Proofs.YtnjcgpihfmklfaaDoor
open Go Go.ChangeShapes Go.WideShapes Go.ChangeAt Go.RowKit Go.Proofs.Tryd
set_option maxRecDepth 100000
abbrev laidT : List (String × DataW Unit) := [("math/bits.deBruijn64tab", Rows.laid_math_bits_deBruijn64tab)]
theorem cells5 : prog.cellsOf 5 = 1 := by kernel_rfl
theorem own : ownKnob prog.godebug = Option.none := by kernel_rfl
theorem laidOut : laidOutB prog = true := by kernel_rfl
theorem tab_eq : (Rows.laid_math_bits_deBruijn64tab : DataW Unit) = .agg (tzTab.map fun (n : Nat) => .lit (.int .u8 (n : Int))) := by kernel_rfl
theorem tab_of_laid {W : World} (h : laidMetH prog laidT W) : Tab (hF W) := by
 intro r v hv
 have hr : r < 64 := (List.getElem?_eq_some_iff.1 hv).1
 rw [MakeChecks.laidMetH_plain _ _ _ (by kernel_rfl)] at h
 obtain ⟨ps, ⟨g, t, cs, fuel, p, q, hg, ht, hw, hd, _, _⟩, _, _⟩ := h
 obtain rfl := Option.some.inj ((show prog.globalNamed "math/bits.deBruijn64tab" = some 0 by kernel_rfl).symm.trans hg)
 obtain rfl := Option.some.inj ((show (prog.globals[0]?).map (·.type) = some 122 by kernel_rfl).symm.trans ht)
 obtain ⟨xs, m, _, ex, _, hl, hel⟩ := DataW.trod_array underlying122 hd
 have hE := hel r hr
 rw [cells5, Nat.mul_one, List.getElem?_eq_getElem (by omega)] at hE
 obtain ⟨z, e1, e2, _⟩ := DataW.trod_int underlying5 hE
 rw [tab_eq] at ex
 have e3 : (xs.map (·.1)) = tzTab.map fun (n : Nat) => .lit (.int .u8 (n : Int)) := (DataW.agg.inj (Prod.mk.inj ex).1).symm
 have e4 : (xs.map (·.1))[r]? = (tzTab.map fun (n : Nat) => (DataW.lit (.int .u8 (n : Int)) : DataW Unit))[r]? := by rw [e3]
 rw [List.getElem?_map, List.getElem?_map, List.getElem?_eq_getElem (by omega : r < xs.length), hv, e2] at e4
 have hz : z = (v : Int) := by
  simp only [Option.map_some, Option.some.injEq, DataW.lit.injEq, Lit.int.injEq, true_and] at e4
  exact e4
 refine hF_cell ?_
 rw [World.var?_cell hg hw r, ← hz]
 have : cs.toList[r]? = some (.int .u8 z) := by
  have h0 : ((cs.toList.drop r).take 1)[0]? = some (.int .u8 z) := by rw [e1]; rfl
  simpa using h0
 simpa using this
theorem laid_met (os : Os) (args : Array Value) : laidMetH prog laidT ((World.laidAll prog os laidT).forCall (fun _ _ => 0) ⟨#[], args, []⟩).memory := by
 rw [MakeChecks.laidMetH_plain _ _ _ (by kernel_rfl)]
 exact laidMet_laidAll _ (by kernel_rfl) (by kernel_rfl)
end Go.Proofs.YtnjcgpihfmklfaaDoor
namespace Go.Proofs.YtnjcgpihfmklfaaDoor
open Go Go.ChangeShapes Go.WideShapes Go.ChangeAt Go.RowKit Go.Deep Go.Proofs.Tryd
set_option maxRecDepth 10000
section
variable {H : Type} {enc : TypeId × Value → H} {P : Program} {W : World}
theorem open_row {t e fuel : Nat} {k : IntKind} {c : Value} {x : DataW H × List MemPlace} (ht : P.underlying t = some (.slice e)) (he : P.underlying e = some (.int k)) (hc : P.cellsOf e = 1)
  (h : DataW.trod enc P W 0 (fun _ => true) true fuel t [c] = some x) (hw : (x.1.weights P t).all (· ≤ reachBytes) = true) :
  ∃ (sl : Sl) (zs : List Int), c = Sl.v sl ∧ RdS (hF W) sl 1 (zs.map (Value.int k)) ∧ (∀ z ∈ zs, (Lit.int k z).wf = true) ∧ sl.len * P.bytesOf e ≤ reachBytes ∧ sl.cap * P.bytesOf e ≤ reachBytes := by
 rcases open_slice1 ht hc h with ⟨hcs, rfl⟩ | ⟨a, len, cap, m, n, V, D, Pl, hcs, _, hl, hm, hmm, rfl, hx⟩
 ·cases hcs
  exact ⟨Sl.nil, [], rfl, RdS.nil _ _, by simp, by simp [Sl.nil], by simp [Sl.nil]⟩
 ·cases hcs
  simp only [if_true] at hmm
  subst hmm
  have hz : ∀ i, i < m → ∃ z, V i = .int k z ∧ (Lit.int k z).wf = true := fun i hi => by
   obtain ⟨z, h1, _, h3⟩ := DataW.trod_int he (hx i hi).2
   exact ⟨z, by simpa using h1, h3⟩
  obtain ⟨Z, hZ⟩ := choose_lt hz
  have hb : m * P.bytesOf e ≤ reachBytes := by
   simp only [DataW.weights, ht, List.all_cons, Bool.and_eq_true, decide_eq_true_eq, List.length_map, List.length_range] at hw
   rw [show len + (m - len) = m by omega] at hw
   exact hw.1
  refine ⟨⟨some a, len, m⟩, (List.range len).map Z, rfl, ⟨by simp, hl, fun hp => ?_⟩, ?_, Nat.le_trans (Nat.mul_le_mul_right _ hl) hb, hb⟩
  ·have hs := World.cell?_spot (hx 0 (by simp only at hp; omega)).1
   obtain ⟨b, o, spot⟩ := a
   simp only [Addr.add] at hs
   subst hs
   refine ⟨b, o, rfl, fun i hi => ?_⟩
   simp at hi
   have := hF_cell (hx i (by omega)).1
   rw [(hZ i (by omega)).1] at this
   rw [add_mk] at this
   simpa using this
  ·intro z hz
   simp only [List.mem_map, List.mem_range] at hz
   obtain ⟨i, hi, rfl⟩ := hz
   exact (hZ i (by omega)).2
end
theorem row_u8 {z : Int} (h : (Lit.int .u8 z).wf = true) : 0 ≤ z ∧ z ≤ 255 := bounds_u8 h
theorem row_len {F : PH} {sl : Sl} {zs : List Int} (h : RdS F sl 1 (zs.map (Value.int .u8))) (hb : sl.len * prog.bytesOf 5 ≤ reachBytes) : zs.length ≤ 9000000000000000 := by
 have := h.len
 rw [List.length_map] at this
 have e : prog.bytesOf 5 = 1 := by kernel_rfl
 have e2 : reachBytes = 140737488351232 := rfl
 rw [e, e2] at hb
 omega
instance : Inhabited Nd := ⟨⟨0, 0, 0, 0, 0⟩⟩
section
variable {H : Type} {enc : TypeId × Value → H} {W : World}
end
end Go.Proofs.YtnjcgpihfmklfaaDoor
