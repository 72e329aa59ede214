/-
  Arguments that are lists of nodes, opened.
-/
import Derived.Test.YtnjcgpihfmklfaaDoorRows
import Derived.WalkKit
import Derived.ProofKit
import Derived.OpenShut
import Derived.SizedLaws
import Derived.Carry
import Derived.Deep.Slices
import Derived.Test.YtnjcgpihfmklfaaDoorPhg
import Derived.Test.YtnjcgpihfmklfaaDoorTie
import Derived.Test.YtnjcgpihfmklfaaDoorCards
import Derived.Test.YtnjcgpihfmklfaaDoorQq
import Derived.LaidMore
import Derived.Lay
import Derived.SevenTiedAt
import Derived.Stop.Joined
import Derived.Test.YtnjcgpihfmklfaaDoorQf
namespace Go.Proofs.YtnjcgpihfmklfaaDoor
open Go Go.ChangeShapes Go.WideShapes Go.ChangeAt Go.RowKit
def hF (W : World) : PH := fun b => W.heap[b]?
theorem hF_cell {W : World} {a : Addr} {v : Value} (h : W.cell? a = some v) : (hF W).cell a = some v := h
theorem calls_of_spec {P : Program} {f : FuncId} {args : Array Value} {W : World} (h : Spec P f args (hF W) fun v F' => v = .bool true ∧ (hF W).le F') :
  Calls P f args W fun e W' => e = .returned (.bool true) ∧ Below W.heap.size W W' := by
 refine (h ⟨W.os, W.tape, W.output, fun _ => Option.none⟩ W ⟨rfl, rfl, rfl, fun b o hb => hb, fun b o hb => (by cases hb)⟩).mono ?_
 rintro e W' ⟨v, F', rfl, hs, rfl, hle⟩
 have key : ∀ (k : Nat) (o : Obj), W.heap[k]? = some o → W'.heap[k]? = some o := fun k o hk => hs.heap k o (hle k o hk)
 refine ⟨rfl, hs.os, hs.tape, hs.output, ?_, fun k hk => ?_⟩
 ·rcases Nat.eq_zero_or_pos W.heap.size with h0 | h0
  ·omega
  ·have h1 := key (W.heap.size - 1) _ (Array.getElem?_eq_getElem (by omega))
   have h2 := (Array.getElem?_eq_some_iff.1 h1).1
   omega
 ·rw [Array.getElem?_eq_getElem hk]
  exact key k _ (Array.getElem?_eq_getElem hk)
section
variable {H : Type} {enc : TypeId × Value → H} {P : Program} {W W' : World}
theorem trodAll_stays (hl : laidOutB P = true) {sp : Nat → Bool} (hb : Below W.heap.size W W') : ∀ {ts : List TypeId} {vs : List Value} {ds : List (DataW H)} {ps : List MemPlace},
  ts.all (fun t => P.readableRec t && decide (t < P.types.size)) = true → DataW.TrodAll enc P W 0 (fun _ => true) true ts vs ds ps → (∀ x ∈ ps, x.block < W.heap.size) → (∀ x ∈ ps, sp x.block = true) → DataW.TrodAll enc P W' 0 sp true ts vs ds ps
 | [], vs, ds, ps, _, h, _, _ => by
  obtain ⟨rfl, rfl, rfl⟩ := trodAll_nil h
  rfl
 | t :: ts, vs, ds, ps, ha, h, hlt, hsp => by
  obtain ⟨v, vs', d, ds', p, q, rfl, rfl, rfl, h1, h2⟩ := trodAll_cons h
  rw [List.all_cons, Bool.and_eq_true, Bool.and_eq_true, decide_eq_true_eq] at ha
  obtain ⟨⟨hr, hrow⟩, ha⟩ := ha
  exact ⟨p, q, WideElems.Trod_stays hl hr hrow h1 (fun x hx => hb.same (hlt x (List.mem_append_left _ hx))) (fun x hx => hsp x (List.mem_append_left _ hx)),
   trodAll_stays hl hb ha h2 (fun x hx => hlt x (List.mem_append_right _ hx)) (fun x hx => hsp x (List.mem_append_right _ hx)), rfl⟩
theorem law_close {f : Func} {s : ChangeSpec} {args : Array Value} {ds gs : List (DataW H)} {before : List MemPlace} {tb : TypeId} {fresh : Bool}
  (hl : laidOutB P = true) (hv : s.vars = []) (hW : DataW.Whole enc P f.params.toList s.vars false W args.toList ds gs before) (hall : f.params.toList.all (fun t => P.readableRec t && decide (t < P.types.size)) = true)
  (hr : f.resultTypes = #[tb]) (htb : P.underlying tb = some .bool) (hb : Below W.heap.size W W')
  (hs : s.fn H (ds ++ gs) = { results := [.lit (.bool true)], args := ds }) :
  s.post enc P f false fresh false false W args (.bool true) W' := by
 have hW' := hW
 obtain ⟨p, q, hA, hV, rfl, _, _⟩ := hW
 rw [hv] at hV
 obtain ⟨rfl, rfl⟩ := trodVars_none hV
 have hlt : ∀ x ∈ p, x.block < W.heap.size := fun x hx => by simpa using hW'.lt x (List.mem_append_left _ hx)
 refine ⟨ds, [], p ++ [], [], p, [], hW', ?_, ?_, ?_, hb.frame _, fun h => by cases h⟩
 ·rw [hs, hr]
  exact trodAll_cons_mk (shut_bool htb _) trodAll_mk0
 ·rw [hs]
  exact trodAll_stays hl hb hall hA hlt (fun x hx => by simpa using hlt x hx)
 ·rw [hs, hv]
  rfl
end
end Go.Proofs.YtnjcgpihfmklfaaDoor
namespace Go.Proofs.YtnjcgpihfmklfaaDoor
open Go Go.ChangeShapes Go.WideShapes Go.ChangeAt Go.RowKit Go.Proofs.Tryd
set_option maxRecDepth 100000
abbrev laidT : List (String × DataW Unit) := [("math/bits.deBruijn64tab", Rows.laid_math_bits_deBruijn64tab)]
theorem cells5 : prog.cellsOf 5 = 1 := by kernel_rfl
theorem own : ownKnob prog.godebug = Option.none := by kernel_rfl
theorem laidOut : laidOutB prog = true := by kernel_rfl
theorem tab_eq : (Rows.laid_math_bits_deBruijn64tab : DataW Unit) = .agg (tzTab.map fun (n : Nat) => .lit (.int .u8 (n : Int))) := by kernel_rfl
theorem tab_of_laid {W : World} (h : laidMetH prog laidT W) : Tab (hF W) := by
 intro r v hv
 have hr : r < 64 := (List.getElem?_eq_some_iff.1 hv).1
 rw [MakeChecks.laidMetH_plain _ _ _ (by kernel_rfl)] at h
 obtain ⟨ps, ⟨g, t, cs, fuel, p, q, hg, ht, hw, hd, _, _⟩, _, _⟩ := h
 obtain rfl := Option.some.inj ((show prog.globalNamed "math/bits.deBruijn64tab" = some 0 by kernel_rfl).symm.trans hg)
 obtain rfl := Option.some.inj ((show (prog.globals[0]?).map (·.type) = some 122 by kernel_rfl).symm.trans ht)
 obtain ⟨xs, m, _, ex, _, hl, hel⟩ := DataW.trod_array underlying122 hd
 have hE := hel r hr
 rw [cells5, Nat.mul_one, List.getElem?_eq_getElem (by omega)] at hE
 obtain ⟨z, e1, e2, _⟩ := DataW.trod_int underlying5 hE
 rw [tab_eq] at ex
 have e3 : (xs.map (·.1)) = tzTab.map fun (n : Nat) => .lit (.int .u8 (n : Int)) := (DataW.agg.inj (Prod.mk.inj ex).1).symm
 have e4 : (xs.map (·.1))[r]? = (tzTab.map fun (n : Nat) => (DataW.lit (.int .u8 (n : Int)) : DataW Unit))[r]? := by rw [e3]
 rw [List.getElem?_map, List.getElem?_map, List.getElem?_eq_getElem (by omega : r < xs.length), hv, e2] at e4
 have hz : z = (v : Int) := by
  simp only [Option.map_some, Option.some.injEq, DataW.lit.injEq, Lit.int.injEq, true_and] at e4
  exact e4
 refine hF_cell ?_
 rw [World.var?_cell hg hw r, ← hz]
 have : cs.toList[r]? = some (.int .u8 z) := by
  have h0 : ((cs.toList.drop r).take 1)[0]? = some (.int .u8 z) := by rw [e1]; rfl
  simpa using h0
 simpa using this
theorem laid_met (os : Os) (args : Array Value) : laidMetH prog laidT ((World.laidAll prog os laidT).forCall (fun _ _ => 0) ⟨#[], args, []⟩).memory := by
 rw [MakeChecks.laidMetH_plain _ _ _ (by kernel_rfl)]
 exact laidMet_laidAll _ (by kernel_rfl) (by kernel_rfl)
end Go.Proofs.YtnjcgpihfmklfaaDoor
namespace Go.Proofs.YtnjcgpihfmklfaaDoor
open Go Go.ChangeShapes Go.WideShapes Go.ChangeAt Go.RowKit Go.Deep Go.Proofs.Tryd
set_option maxRecDepth 10000
section
variable {H : Type} {enc : TypeId × Value → H} {P : Program} {W : World}
end
theorem cells3' : prog.cellsOf 3 = 1 := by kernel_rfl
theorem cells50 : prog.cellsOf 50 = 5 := by kernel_rfl
instance : Inhabited Nd := ⟨⟨0, 0, 0, 0, 0⟩⟩
section
variable {H : Type} {enc : TypeId × Value → H} {W : World}
theorem open_nd {fuel : Nat} {cs : List Value} {x : DataW H × List MemPlace} (h : DataW.trod enc prog W 0 (fun _ => true) true fuel 50 cs = some x) : ∃ b : Nd, cs = Nd.cells b := by
 obtain ⟨xs, n, _, rfl, hl, hxl, hf⟩ := DataW.trod_struct underlying50 h
 rw [cells50] at hl
 match cs, hl with
 | [c0, c1, c2, c3, c4], _ =>
 match xs, hxl with
 | [x0, x1, x2, x3, x4], _ =>
 have f0 := hf 0 _ rfl
 have f1 := hf 1 _ rfl
 have f2 := hf 2 _ rfl
 have f3 := hf 3 _ rfl
 have f4 := hf 4 _ rfl
 simp only [cells3', List.drop_zero, List.drop_succ_cons, List.take_succ_cons, List.take_zero, List.getElem?_cons_zero, List.getElem?_cons_succ] at f0 f1 f2 f3 f4
 obtain ⟨z0, e0, _⟩ := DataW.trod_int underlying3 f0
 obtain ⟨z1, e1, _⟩ := DataW.trod_int underlying3 f1
 obtain ⟨z2, e2, _⟩ := DataW.trod_int underlying3 f2
 obtain ⟨z3, e3, _⟩ := DataW.trod_int underlying3 f3
 obtain ⟨z4, e4, _⟩ := DataW.trod_int underlying3 f4
 cases e0; cases e1; cases e2; cases e3; cases e4
 exact ⟨⟨z0, z1, z2, z3, z4⟩, rfl⟩
theorem open_nds {fuel : Nat} {c : Value} {x : DataW H × List MemPlace} (h : DataW.trod enc prog W 0 (fun _ => true) true fuel 25 [c] = some x) : ∃ sl l, c = Sl.v sl ∧ RdS (hF W) sl 5 (nflat l) := by
 rcases open_slice underlying25 h with ⟨hcs, rfl⟩ | ⟨a, len, cap, m, n, D, Pl, hcs, _, hl, hm, hmm, rfl, hx⟩
 ·cases hcs
  exact ⟨Sl.nil, [], rfl, RdS.nil _ _⟩
 ·cases hcs
  simp only [if_true] at hmm
  subst hmm
  rw [cells50] at hx
  have ho : ∀ i, i < len → ∃ b : Nd, W.cells? 0 (a.add (i * 5)) 5 = some (Nd.cells b) := fun i hi => by
   obtain ⟨cs, h1, h2⟩ := hx i (by omega)
   obtain ⟨b, rfl⟩ := open_nd h2
   exact ⟨b, h1⟩
  obtain ⟨O, hO⟩ := choose_lt ho
  refine ⟨⟨some a, len, m⟩, (List.range len).map O, rfl, ⟨by rw [nflat_length]; simp, hl, fun hp => ?_⟩⟩
  simp only at hp
  have h0 := (World.cells?_some (hO 0 (by omega))).2.2 0 (by omega)
  have hs := World.cell?_spot (v := vi (O 0).k) (by rw [h0]; rfl)
  obtain ⟨b, o, spot⟩ := a
  simp [Addr.add] at hs
  subst hs
  refine ⟨b, o, rfl, fun i hi => ?_⟩
  have hi' : i < len * 5 := by rw [nflat_length] at hi; simpa using hi
  have hi3 : i / 5 < len := by omega
  have h1 := (World.cells?_some (hO (i / 5) hi3)).2.2 (i % 5) (by omega)
  have h2 := nflat_get ((List.range len).map O) (i / 5) (by simpa using hi3)
  have h3 : (nflat ((List.range len).map O))[i]? = (Nd.cells (O (i / 5)))[i % 5]? := by
   have := congrArg (fun l => l[i % 5]?) h2
   simp only [List.getElem?_take_of_lt (show i % 5 < 5 by omega), List.getElem?_drop, List.getElem_map, List.getElem_range] at this
   rw [show i / 5 * 5 + i % 5 = i by omega] at this
   exact this
  rw [← List.getElem?_eq_getElem, h3, ← h1]
  rw [add_mk, add_mk, show o + i / 5 * 5 + i % 5 = o + i by omega]
  rfl
end
end Go.Proofs.YtnjcgpihfmklfaaDoor
