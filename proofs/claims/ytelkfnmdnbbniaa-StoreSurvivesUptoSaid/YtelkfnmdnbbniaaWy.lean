/-
  StoreKeys.
-/
import Derived.Test.YtelkfnmdnbbniaaWx
import Derived.Test.YtelkfnmdnbbniaaGL6
namespace Go.Proofs.Ytelkfnmdnbbniaa
open Go Go.Proofs.Try
set_option maxRecDepth 10000
section
variable {F F0 G G' K : PH} {fp fq fp' fd : Nat → Prop} {n : Nat} {s : DS} {st cm d : Nat} {x : SS} {slm sl : Sl} {k : Nat} {M : List Nat} {ops : List OpS} {o : OpS}
variable {s2 : DS} {st2 cm2 d2 : Nat} {x2 : SS} {slm2 : Sl}
end
end Go.Proofs.Ytelkfnmdnbbniaa
