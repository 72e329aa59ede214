/-
  PatternMeaning.
-/
import Derived.Test.YtnjcgpihfmklfaaDoorSl
import Derived.Test.YtnjcgpihfmklfaaDoorSn
import Derived.Test.YtnjcgpihfmklfaaDoorGL7
namespace Go.Proofs.YtnjcgpihfmklfaaDoor
open Go Go.Proofs.Tryd
set_option maxRecDepth 10000
section
variable {F : PH}
theorem print_made (hT : Tab F) {s : Sl} {t : Pat} (hr : RdS F s 5 (nflat (t.nodes 0))) (hb : t.byt) (hs : t.size ≤ 512) : Spec prog 19 #[s.v] F fun r F' => (∃ d : ByteArray, r = .tuple #[.string d, vi 0] ∧ bs d = t.pr ∧ d.size ≤ 16 * t.size) ∧ F.le F' := by
 refine (print_spec hr).mono ?_
 have e2 : printR (t.nodes 0) = (t.pr, 0) := by unfold printR; rw [nodes_chk hb hs, if_neg (by decide), nodes_pat hb]
 rw [e2]
 rintro _ F3 ⟨⟨_, rfl, d, rfl, hd⟩, l3⟩
 replace hd : bs d = t.pr := hd
 refine ⟨⟨d, rfl, hd, ?_⟩, l3⟩
 have := pr_length t
 rw [← bs_length, hd]
 omega
end
end Go.Proofs.YtnjcgpihfmklfaaDoor
