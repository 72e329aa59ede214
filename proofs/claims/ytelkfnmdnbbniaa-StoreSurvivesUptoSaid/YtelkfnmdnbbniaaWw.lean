/-
  StoreRoom.
-/
import Derived.Test.YtelkfnmdnbbniaaWv
import Derived.Test.YtelkfnmdnbbniaaGL5
namespace Go.Proofs.Ytelkfnmdnbbniaa
open Go Go.Proofs.Try
set_option maxRecDepth 10000
section
variable {F F0 G K : PH} {fp fd : Nat → Prop} {n : Nat} {s : DS} {st cm d : Nat} {x : SS} {slm sl : Sl} {k : Nat} {M : List Nat} {ops : List OpS} {o : OpS}
end
end Go.Proofs.Ytelkfnmdnbbniaa
