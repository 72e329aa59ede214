/-
  StoreMatchesReference.
-/
import Derived.Test.YtelkfnmdnbbniaaWu
import Derived.Test.YtelkfnmdnbbniaaGL3
namespace Go.Proofs.Ytelkfnmdnbbniaa
open Go Go.Proofs.Try
set_option maxRecDepth 10000
theorem Srt.take {L : List Rc} (h : Srt L) (i : Nat) : Srt (L.take i) := List.Pairwise.sublist (List.take_sublist _ _) h
section
variable {F F0 G K : PH} {fp fd : Nat → Prop} {n : Nat} {s : DS} {st cm d : Nat} {x : SS} {slm sl : Sl} {k : Nat} {M : List Nat} {ops : List OpS} {o : OpS}
theorem Lc.same (h : Lc F0 G fp n s st cm d x slm k) (hn : n ≤ 500) (hk : k ≤ 1000) : Spec prog 13 #[.pointer (some ⟨st, 0, none⟩), .agg (refC n x.used slm)] G fun v F' => v = .bool true ∧ G.le F' := by
 have hsr := h.sr hn hk
 have hsz := hsr.sizes
 refine (same_spec hsr.sto (le_refl' _) hsr.small hsz.1 hsz.2.1 hsz.2.2.1 (by omega) hsz.2.2.2.1 (by omega) (h.st.ref.le (mns_le _ _)) hsr.byt hsr.byt).mono ?_
 rintro v F' ⟨r, rfl, hr, l⟩
 obtain rfl : r = true := hr.2 ⟨rfl, by rw [hsz.2.2.2.2]⟩
 exact ⟨rfl, l⟩
end
end Go.Proofs.Ytelkfnmdnbbniaa
