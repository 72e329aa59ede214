/-
  What functions of the program do, in a clean form, each with the proof that its code does so. Printed by a program.
-/
import Derived.Test.YtnjcgpihfmklfaaDoorGf
import Derived.Test.YtnjcgpihfmklfaaDoorPhp
namespace Go.Proofs.YtnjcgpihfmklfaaDoor
open Go Go.Proofs.Tryd
set_option maxRecDepth 10000
set_option maxHeartbeats 4000000
/- 27 koine.koineref04.Same -/
def b27j1 (R : VP) (F : PH) :=
 R (.bool true) F
def b27L1 (N1 : Int → PH → Prop) (p_0 : Sl) (q_1 : Sl) (R : VP) (i_5 : Int) (F : PH) :=
 ((i_5 < (p_0.len : Int) →
  ∃ a19_ : Addr, p_0.base = some a19_ ∧ 0 ≤ i_5 ∧ i_5 < (p_0.len : Int) ∧
  ∃ v_20 : Array Value, v_20.size = 5 ∧ F.row (Addr.add a19_ (Int.toNat i_5 * 5)) v_20 ∧
  ∃ a23_ : Addr, q_1.base = some a23_ ∧ 0 ≤ i_5 ∧ i_5 < (q_1.len : Int) ∧
  ∃ v_24 : Array Value, v_24.size = 5 ∧ F.row (Addr.add a23_ (Int.toNat i_5 * 5)) v_24 ∧
  ∃ v_25 : Bool, (∀ F, rdo prog (Op.equal 50 (.agg v_20) (.agg v_24)) F v_25) ∧
  (((!v_25) = true →
   R (.bool false) F) ∧
  ((!v_25) = false →
   N1 (IntKind.i64.wrap (i_5 + 1)) F))) ∧
 (¬ (i_5 < (p_0.len : Int)) →
  b27j1 R F))
def b27 (p_0 : Sl) (q_1 : Sl) (R : VP) (F : PH) :=
 (((p_0.len : Int) ≠ (q_1.len : Int) →
  R (.bool false) F) ∧
 (¬ ((p_0.len : Int) ≠ (q_1.len : Int)) →
  (∃ (I1 : Nat → Int → PH → Prop) (m1 : Nat), I1 m1 0 F ∧ ∀ m1 i_5 F, I1 m1 i_5 F →
   b27L1 (nx1 I1 m1) p_0 q_1 R i_5 F)))
end Go.Proofs.YtnjcgpihfmklfaaDoor
