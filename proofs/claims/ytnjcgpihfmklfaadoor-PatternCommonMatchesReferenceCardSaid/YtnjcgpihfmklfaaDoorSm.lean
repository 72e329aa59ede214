/-
  PatternLiterals: what Literal returns.
-/
import Derived.Test.YtnjcgpihfmklfaaDoorSk
import Derived.Test.YtnjcgpihfmklfaaDoorSn
import Derived.Test.YtnjcgpihfmklfaaDoorSs
import Derived.Test.YtnjcgpihfmklfaaDoorGt
import Derived.Test.YtnjcgpihfmklfaaDoorGm
import Derived.Test.YtnjcgpihfmklfaaDoorGL14
namespace Go.Proofs.YtnjcgpihfmklfaaDoor
open Go Go.Proofs.Tryd
set_option maxRecDepth 10000
theorem snoc_ind {P : List Nat → Prop} (h0 : P []) (h1 : ∀ w b, P w → P (w ++ [b])) : ∀ w, P w := by
 intro w
 have : ∀ n (w : List Nat), w.length = n → P w := by
  intro n
  induction n with
  | zero => intro w hw; rw [List.length_eq_zero_iff.1 hw]; exact h0
  | succ n ih =>
   intro w hw
   have hne : w ≠ [] := by intro e; rw [e] at hw; simp at hw
   have e := List.dropLast_concat_getLast hne
   rw [← e]
   exact h1 _ _ (ih _ (by simp [hw]))
 exact this _ w rfl
section
variable {F : PH}
end
end Go.Proofs.YtnjcgpihfmklfaaDoor
