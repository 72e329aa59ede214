/-
  From a Spec to the given statement: the arguments are opened into what a partial heap knows; what the law leaves reads as before.
-/
import Derived.Test.YtelkfnmdnbbniaaRows
import Derived.WalkKit
import Derived.ProofKit
import Derived.OpenShut
import Derived.SizedLaws
import Derived.Carry
import Derived.Deep.Slices
import Derived.Test.YtelkfnmdnbbniaaPhn
namespace Go.Proofs.Ytelkfnmdnbbniaa
open Go Go.ChangeShapes Go.WideShapes Go.ChangeAt Go.RowKit
def hF (W : World) : PH := fun b => W.heap[b]?
theorem hF_cell {W : World} {a : Addr} {v : Value} (h : W.cell? a = some v) : (hF W).cell a = some v := h
theorem calls_of_spec {P : Program} {f : FuncId} {args : Array Value} {W : World} (h : Spec P f args (hF W) fun v F' => v = .bool true ∧ (hF W).le F') :
  Calls P f args W fun e W' => e = .returned (.bool true) ∧ Below W.heap.size W W' := by
 refine (h ⟨W.os, W.tape, W.output, fun _ => Option.none⟩ W ⟨rfl, rfl, rfl, fun b o hb => hb, fun b o hb => (by cases hb)⟩).mono ?_
 rintro e W' ⟨v, F', rfl, hs, rfl, hle⟩
 have key : ∀ (k : Nat) (o : Obj), W.heap[k]? = some o → W'.heap[k]? = some o := fun k o hk => hs.heap k o (hle k o hk)
 refine ⟨rfl, hs.os, hs.tape, hs.output, ?_, fun k hk => ?_⟩
 ·rcases Nat.eq_zero_or_pos W.heap.size with h0 | h0
  ·omega
  ·have h1 := key (W.heap.size - 1) _ (Array.getElem?_eq_getElem (by omega))
   have h2 := (Array.getElem?_eq_some_iff.1 h1).1
   omega
 ·rw [Array.getElem?_eq_getElem hk]
  exact key k _ (Array.getElem?_eq_getElem hk)
section
variable {H : Type} {enc : TypeId × Value → H} {P : Program} {W W' : World}
theorem trodAll_stays (hl : laidOutB P = true) {sp : Nat → Bool} (hb : Below W.heap.size W W') : ∀ {ts : List TypeId} {vs : List Value} {ds : List (DataW H)} {ps : List MemPlace},
  ts.all (fun t => P.readableRec t && decide (t < P.types.size)) = true → DataW.TrodAll enc P W 0 (fun _ => true) true ts vs ds ps → (∀ x ∈ ps, x.block < W.heap.size) → (∀ x ∈ ps, sp x.block = true) → DataW.TrodAll enc P W' 0 sp true ts vs ds ps
 | [], vs, ds, ps, _, h, _, _ => by
  obtain ⟨rfl, rfl, rfl⟩ := trodAll_nil h
  rfl
 | t :: ts, vs, ds, ps, ha, h, hlt, hsp => by
  obtain ⟨v, vs', d, ds', p, q, rfl, rfl, rfl, h1, h2⟩ := trodAll_cons h
  rw [List.all_cons, Bool.and_eq_true, Bool.and_eq_true, decide_eq_true_eq] at ha
  obtain ⟨⟨hr, hrow⟩, ha⟩ := ha
  exact ⟨p, q, WideElems.Trod_stays hl hr hrow h1 (fun x hx => hb.same (hlt x (List.mem_append_left _ hx))) (fun x hx => hsp x (List.mem_append_left _ hx)),
   trodAll_stays hl hb ha h2 (fun x hx => hlt x (List.mem_append_right _ hx)) (fun x hx => hsp x (List.mem_append_right _ hx)), rfl⟩
theorem law_close {f : Func} {s : ChangeSpec} {args : Array Value} {ds gs : List (DataW H)} {before : List MemPlace} {tb : TypeId} {fresh : Bool}
  (hl : laidOutB P = true) (hv : s.vars = []) (hW : DataW.Whole enc P f.params.toList s.vars false W args.toList ds gs before) (hall : f.params.toList.all (fun t => P.readableRec t && decide (t < P.types.size)) = true)
  (hr : f.resultTypes = #[tb]) (htb : P.underlying tb = some .bool) (hb : Below W.heap.size W W')
  (hs : s.fn H (ds ++ gs) = { results := [.lit (.bool true)], args := ds }) :
  s.post enc P f false fresh false false W args (.bool true) W' := by
 have hW' := hW
 obtain ⟨p, q, hA, hV, rfl, _, _⟩ := hW
 rw [hv] at hV
 obtain ⟨rfl, rfl⟩ := trodVars_none hV
 have hlt : ∀ x ∈ p, x.block < W.heap.size := fun x hx => by simpa using hW'.lt x (List.mem_append_left _ hx)
 refine ⟨ds, [], p ++ [], [], p, [], hW', ?_, ?_, ?_, hb.frame _, fun h => by cases h⟩
 ·rw [hs, hr]
  exact trodAll_cons_mk (shut_bool htb _) trodAll_mk0
 ·rw [hs]
  exact trodAll_stays hl hb hall hA hlt (fun x hx => by simpa using hlt x hx)
 ·rw [hs, hv]
  rfl
end
end Go.Proofs.Ytelkfnmdnbbniaa
