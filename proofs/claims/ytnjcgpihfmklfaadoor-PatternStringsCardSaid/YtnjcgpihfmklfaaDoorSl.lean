/-
  Words; PatternLongest.
-/
import Derived.Test.YtnjcgpihfmklfaaDoorSj
import Derived.Test.YtnjcgpihfmklfaaDoorSh
import Derived.Test.YtnjcgpihfmklfaaDoorGk
import Derived.Test.YtnjcgpihfmklfaaDoorGL8
namespace Go.Proofs.YtnjcgpihfmklfaaDoor
open Go Go.Proofs.Tryd
set_option maxRecDepth 10000
section
variable {F : PH}
end
end Go.Proofs.YtnjcgpihfmklfaaDoor
