/-
  StoreRoom.
-/
import Derived.Test.YtelkfnmdnbbniaaWv
import Derived.Test.YtelkfnmdnbbniaaGL5
namespace Go.Proofs.Ytelkfnmdnbbniaa
open Go Go.Proofs.Try
set_option maxRecDepth 10000
section
variable {F F0 G K : PH} {fp fd : Nat → Prop} {n : Nat} {s : DS} {st cm d : Nat} {x : SS} {slm sl : Sl} {k : Nat} {M : List Nat} {ops : List OpS} {o : OpS}
theorem refC_ok {n u : Nat} {L t : List Rc} (h1 : OkT t) (h2 : t ≠ []) : refCommit n u L t = if n / 2 - 1 - u < secs (plen t) then
  if n / 2 - 1 - snapN L < secs (plen t) then (u, L, 351) else (snapN L + secs (plen t), afterR L t, 0) else (u + secs (plen t), afterR L t, 0) := by
 conv => lhs; unfold refCommit
 rw [if_neg (fun hh => hh h1), if_neg h2]
end
end Go.Proofs.Ytelkfnmdnbbniaa
