/-
  Equality of patterns.
-/
import Derived.Test.YtnjcgpihfmklfaaDoorQg
import Derived.Test.YtnjcgpihfmklfaaDoorQv
import Derived.Test.YtnjcgpihfmklfaaDoorQi
import Derived.Test.YtnjcgpihfmklfaaDoorGm
namespace Go.Proofs.YtnjcgpihfmklfaaDoor
open Go Go.Proofs.Tryd
set_option maxRecDepth 10000
section
variable {F : PH}
theorem same_spec {s1 s2 : Sl} {l1 l2 : List Nd} (hb : l1.length ≤ 1000000) (h1 : RdS F s1 5 (nflat l1)) (h2 : RdS F s2 5 (nflat l2)) : Spec prog 27 #[s1.v, s2.v] F fun r F' => r = .bool (decide (l1 = l2)) ∧ F' = F := by
 have n1 := h1.nlen
 have n2 := h2.nlen
 refine c27 ?_
 unfold b27
 refine ⟨fun hne => ⟨?_, rfl⟩, fun he => ?_⟩
 ·have : ¬ l1 = l2 := fun e => hne (by rw [n1, n2, e])
  rw [decide_eq_false this]
 ·have hl : l1.length = l2.length := by omega
  refine ⟨fun m i F' => ∃ w : Nat, i = w ∧ w ≤ l1.length ∧ m = l1.length - w ∧ F' = F ∧ l1.take w = l2.take w, l1.length, ⟨0, rfl, by omega, by omega, rfl, rfl⟩, ?_⟩
  rintro _ _ _ ⟨w, rfl, hw, rfl, rfl, ht⟩
  unfold b27L1
  refine ⟨fun hlt => ?_, fun hge => ?_⟩
  ·have hw' : w < l1.length := by omega
   have hx : l1[w]? = some l1[w] := List.getElem?_eq_getElem hw'
   have hy : l2[w]? = some l2[w] := List.getElem?_eq_getElem (by omega)
   generalize l1[w] = x at hx
   generalize l2[w] = y at hy
   obtain ⟨a, ha, hra⟩ := rdn h1 hx
   obtain ⟨b, hb, hrb⟩ := rdn h2 hy
   refine ⟨a, ha, by omega, by omega, x.arr, rfl, by rw [Int.toNat_natCast]; exact hra, b, hb, by omega, by omega, y.arr, rfl, by rw [Int.toNat_natCast]; exact hrb, decide (x = y), fun F => eqNd x y, fun hn => ⟨?_, rfl⟩, fun hn => ?_⟩
   ·have : ¬ l1 = l2 := fun e => by
     rw [e, hy] at hx
     cases hx
     simp at hn
    rw [decide_eq_false this]
   ·have hxy : x = y := by simpa using hn
    refine ⟨l1.length - (w + 1), by omega, w + 1, w64s (by omega), by omega, rfl, rfl, ?_⟩
    rw [List.take_add_one, List.take_add_one, hx, hy, ht, hxy]
  ·have hw' : w = l1.length := by omega
   unfold b27j1
   have : l1 = l2 := by
    rw [hw', List.take_length, hl, List.take_length] at ht
    exact ht
   rw [decide_eq_true this]
   exact ⟨rfl, rfl⟩
end
end Go.Proofs.YtnjcgpihfmklfaaDoor
