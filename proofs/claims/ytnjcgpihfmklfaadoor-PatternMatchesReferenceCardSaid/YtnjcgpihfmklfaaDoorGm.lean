/-
  What functions of the program do, in a clean form, each with the proof that its code does so. Printed by a program.
-/
import Derived.Test.YtnjcgpihfmklfaaDoorGf
import Derived.Test.YtnjcgpihfmklfaaDoorPhp
namespace Go.Proofs.YtnjcgpihfmklfaaDoor
open Go Go.Proofs.Tryd
set_option maxRecDepth 10000
set_option maxHeartbeats 4000000
/- 27 koine.koineref04.Same -/
def b28j1 (s_0 : ByteArray) (n_1 : Int) (out_5 : ByteArray) (R : Value → PH → Prop) (F : PH) : Prop :=
 0 ≤ (IntKind.i64.wrap (n_1 * (s_0.size : Int))) ∧ 0 ≤ (Int.toNat (IntKind.i64.wrap (n_1 * (s_0.size : Int)))) ∧ (Int.toNat (IntKind.i64.wrap (n_1 * (s_0.size : Int)))) ≤ out_5.size ∧ 
 R (.string (out_5.extract 0 (Int.toNat (IntKind.i64.wrap (n_1 * (s_0.size : Int)))))) F
def b28L1 (N1 : ByteArray → PH → Prop) (s_0 : ByteArray) (n_1 : Int) (R : Value → PH → Prop) (out_5_1 : ByteArray) (F : PH) : Prop :=
 (((out_5_1.size : Int) < (IntKind.i64.wrap (n_1 * (s_0.size : Int))) →
  out_5_1.size + out_5_1.size ≤ 9223372036854775807 ∧
  (out_5_1 ++ out_5_1).size + s_0.size ≤ 9223372036854775807 ∧
  N1 ((out_5_1 ++ out_5_1) ++ s_0) F) ∧
 (¬ ((out_5_1.size : Int) < (IntKind.i64.wrap (n_1 * (s_0.size : Int)))) →
  b28j1 s_0 n_1 out_5_1 R F))
def b28 (s_0 : ByteArray) (n_1 : Int) (R : Value → PH → Prop) (F : PH) : Prop :=
 (∃ (I1 : Nat → ByteArray → PH → Prop) (m1 : Nat), I1 m1 (ByteArray.mk #[]) F ∧ ∀ m1 out_5_1 F, I1 m1 out_5_1 F →
  b28L1 (fun y1_0 F => ∃ m', m' < m1 ∧ I1 m' y1_0 F) s_0 n_1 R out_5_1 F)
end Go.Proofs.YtnjcgpihfmklfaaDoor
