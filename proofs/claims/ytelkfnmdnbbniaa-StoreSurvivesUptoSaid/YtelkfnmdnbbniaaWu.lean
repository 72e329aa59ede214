/-
  StoreOpens.
-/
import Derived.Test.YtelkfnmdnbbniaaWt
import Derived.Test.YtelkfnmdnbbniaaGL9
namespace Go.Proofs.Ytelkfnmdnbbniaa
open Go Go.Proofs.Try
set_option maxRecDepth 10000
section
variable {F F0 G K : PH} {fp fd : Nat → Prop} {n : Nat} {s : DS} {st cm d : Nat} {x : SS} {slm sl : Sl} {k : Nat} {M : List Nat} {ops : List OpS} {o : OpS}
theorem Sr.disk (h : Sr F fp n s st cm d x) : ∃ fd K, DRep F K d fd n s := by
 obtain ⟨fd, K, rfl, ha⟩ := h.act.open
 exact ⟨fd, K, ha.hd.le (mns_le _ _)⟩
end
end Go.Proofs.Ytelkfnmdnbbniaa
