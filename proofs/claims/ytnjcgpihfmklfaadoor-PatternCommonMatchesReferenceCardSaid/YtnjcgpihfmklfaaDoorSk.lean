/-
  PatternCommon.
-/
import Derived.Test.YtnjcgpihfmklfaaDoorSj
import Derived.Test.YtnjcgpihfmklfaaDoorSh
import Derived.Test.YtnjcgpihfmklfaaDoorGL14
namespace Go.Proofs.YtnjcgpihfmklfaaDoor
open Go Go.Proofs.Tryd
set_option maxRecDepth 10000
def ComS (l1 l2 : List Nd) (s : ByteArray) (e : Int) : Prop := ((∀ w, ¬ ComW l1 l2 w) ∧ bs s = [] ∧ e = 3) ∨ (LeastC (ComW l1 l2) (bs s) ∧ e = 0 ∧ s.size ≤ 262145)
theorem ComR.val {l1 l2 : List Nd} {r : Value} (h : ComR l1 l2 r) (h1 : chkP l1 = 0) (h2 : chkP l2 = 0) : ∃ s e, r = .tuple #[.string s, vi e] ∧ ComS l1 l2 s e := by
 rcases h with ⟨h, _⟩ | ⟨_, h, _⟩ | ⟨_, _, ⟨h, rfl⟩ | ⟨w, hw, hb, rfl⟩⟩
 ·exact absurd h1 h
 ·exact absurd h2 h
 ·exact ⟨_, _, rfl, .inl ⟨h, rfl, rfl⟩⟩
 ·exact ⟨_, _, rfl, .inr ⟨by rw [bs_mkS hb.1]; exact hw, rfl, by rw [← bs_length, bs_mkS hb.1]; exact hb.2⟩⟩
theorem ComS.uniq {l1 l2 : List Nd} {s t : ByteArray} {e f : Int} (h : ComS l1 l2 s e) (k : ComS l1 l2 t f) : s = t ∧ e = f := by
 rcases h with ⟨h1, h2, rfl⟩ | ⟨h1, rfl, _⟩
 ·rcases k with ⟨k1, k2, rfl⟩ | ⟨k1, rfl, _⟩
  ·exact ⟨bs_inj (h2.trans k2.symm), rfl⟩
  ·exact absurd k1.is (h1 _)
 ·rcases k with ⟨k1, k2, rfl⟩ | ⟨k1, rfl, _⟩
  ·exact absurd h1.is (k1 _)
  ·exact ⟨bs_inj (h1.uniq k1), rfl⟩
section
variable {F : PH}
end
end Go.Proofs.YtnjcgpihfmklfaaDoor
