/-
  Tied cards: the table of math/bits, opened; the witness has it laid.
-/
import Derived.Test.YtnjcgpihfmklfaaDoorTop
import Derived.Test.YtnjcgpihfmklfaaDoorTie
import Derived.Test.YtnjcgpihfmklfaaDoorCards
import Derived.Test.YtnjcgpihfmklfaaDoorQq
import Derived.LaidMore
import Derived.Lay
import Derived.SevenTiedAt
import Derived.Stop.Joined
namespace Go.Proofs.YtnjcgpihfmklfaaDoor
open Go Go.ChangeShapes Go.WideShapes Go.ChangeAt Go.RowKit Go.Proofs.Tryd
set_option maxRecDepth 100000

abbrev laidT : List (String × DataW Unit) := [("math/bits.deBruijn64tab", Rows.laid_math_bits_deBruijn64tab)]
theorem cells5 : prog.cellsOf 5 = 1 := by kernel_rfl
theorem own : ownKnob prog.godebug = Option.none := by kernel_rfl
theorem laidOut : laidOutB prog = true := by kernel_rfl
theorem tab_eq : (Rows.laid_math_bits_deBruijn64tab : DataW Unit) = .agg (tzTab.map fun (n : Nat) => .lit (.int .u8 (n : Int))) := by kernel_rfl
theorem tab_of_laid {W : World} (h : laidMetH prog laidT W) : Tab (hF W) := by
  intro r v hv
  have hr : r < 64 := (List.getElem?_eq_some_iff.1 hv).1
  rw [MakeChecks.laidMetH_plain _ _ _ (by kernel_rfl)] at h
  obtain ⟨ps, ⟨g, t, cs, fuel, p, q, hg, ht, hw, hd, _, _⟩, _, _⟩ := h
  obtain rfl := Option.some.inj ((show prog.globalNamed "math/bits.deBruijn64tab" = some 0 by kernel_rfl).symm.trans hg)
  obtain rfl := Option.some.inj ((show (prog.globals[0]?).map (·.type) = some 122 by kernel_rfl).symm.trans ht)
  obtain ⟨xs, m, _, ex, _, hl, hel⟩ := DataW.trod_array underlying122 hd
  have hE := hel r hr
  rw [cells5, Nat.mul_one, List.getElem?_eq_getElem (by omega)] at hE
  obtain ⟨z, e1, e2, _⟩ := DataW.trod_int underlying5 hE
  rw [tab_eq] at ex
  have e3 : (xs.map (·.1)) = tzTab.map fun (n : Nat) => .lit (.int .u8 (n : Int)) := (DataW.agg.inj (Prod.mk.inj ex).1).symm
  have e4 : (xs.map (·.1))[r]? = (tzTab.map fun (n : Nat) => (DataW.lit (.int .u8 (n : Int)) : DataW Unit))[r]? := by rw [e3]
  rw [List.getElem?_map, List.getElem?_map, List.getElem?_eq_getElem (by omega : r < xs.length), hv, e2] at e4
  have hz : z = (v : Int) := by
    simp only [Option.map_some, Option.some.injEq, DataW.lit.injEq, Lit.int.injEq, true_and] at e4
    exact e4
  refine hF_cell ?_
  rw [World.var?_cell hg hw r, ← hz]
  have : cs.toList[r]? = some (.int .u8 z) := by
    have h0 : ((cs.toList.drop r).take 1)[0]? = some (.int .u8 z) := by rw [e1]; rfl
    simpa using h0
  simpa using this
theorem laid_met (os : Os) (args : Array Value) : laidMetH prog laidT ((World.laidAll prog os laidT).forCall (fun _ _ => 0) ⟨#[], args, []⟩).memory := by
  rw [MakeChecks.laidMetH_plain _ _ _ (by kernel_rfl)]
  exact laidMet_laidAll _ (by kernel_rfl) (by kernel_rfl)
end Go.Proofs.YtnjcgpihfmklfaaDoor
