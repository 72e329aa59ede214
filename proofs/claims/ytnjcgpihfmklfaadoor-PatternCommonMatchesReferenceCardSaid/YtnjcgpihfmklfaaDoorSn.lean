/-
  What is printed is read again.
-/
import Derived.Test.YtnjcgpihfmklfaaDoorQg
namespace Go.Proofs.YtnjcgpihfmklfaaDoor
open Go
set_option maxRecDepth 10000
section
variable {n : Nat} {c : Nat → Nat}
end
end Go.Proofs.YtnjcgpihfmklfaaDoor
