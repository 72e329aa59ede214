/-
  Equality of patterns.
-/
import Derived.Test.YtnjcgpihfmklfaaDoorQg
import Derived.Test.YtnjcgpihfmklfaaDoorQv
import Derived.Test.YtnjcgpihfmklfaaDoorQi
import Derived.Test.YtnjcgpihfmklfaaDoorGm
namespace Go.Proofs.YtnjcgpihfmklfaaDoor
open Go Go.Proofs.Tryd
set_option maxRecDepth 10000
section
variable {F : PH}
end
end Go.Proofs.YtnjcgpihfmklfaaDoor
