/-
  The reference's reader: characters.
-/
import Derived.Test.YtnjcgpihfmklfaaDoorQi
import Derived.Test.YtnjcgpihfmklfaaDoorGq
namespace Go.Proofs.YtnjcgpihfmklfaaDoor
open Go Go.Proofs.Tryd
set_option maxRecDepth 10000
section
variable {F : PH}
end
end Go.Proofs.YtnjcgpihfmklfaaDoor
