/-
  Regions in any order: a state that is reached on several ways is proved once. Short names for printed proofs.
-/
import Derived.Test.YtnjcgpihfmklfaaDoorPhf
import Derived.KernelRfl
namespace Go.Proofs.YtnjcgpihfmklfaaDoor
open Go
section
variable {P : Program} {n : Nat} {Q : Exit → En → PH → Prop} {E : En} {F : PH} {ops : Array Oper} {l : List Oper} {d : Tmp} {op : Op} {ty : TypeId} {pos : String} {aft : Array Edge} {gd : Option (Nat × Bool)}
theorem sR (v : Value) (h : RD P E F ⟨some d, op, ty, pos, aft, gd⟩ v) (K : HL P n ops Q l (upd E d v) F) (hw : Region.wanted ⟨some d, op, ty, pos, aft, gd⟩ (yE ops E) = true := by rfl) (hd : Nat.blt d n = true := by rfl) :
  HL P n ops Q (⟨some d, op, ty, pos, aft, gd⟩ :: l) E F := s_rd h K hw hd
theorem kN (t : Nat) {x b : Bool} (hc : x = b) (K : HL P n ops Q l (upd E t (.bool b)) F) (h : E t = .bool x := by rfl) : HL P n ops Q l E F := HL_known (h.trans (congrArg Value.bool hc)) K
theorem cR {id : Nat} {l : List Oper} {y : Code} (h : HL P n l.toArray (thenQ (HC P n y Q) Q) l E F) : HC P n (.seq (.region id l.toArray false) y) Q E F := HC_seq (HC_region h)
theorem gU (i : Nat) (v : Value) {fuel : Nat} {listed : Array Bool} {Sp : Pend} (hi : ops[i]? = some ⟨some d, op, ty, pos, aft, gd⟩) (hy : ∀ F, RD P E F ⟨some d, op, ty, pos, aft, gd⟩ v) (hh : holdF Sp F)
  (h : RG P n ops Q fuel (listed.setIfInBounds i true) Sp (upd E d v) F) (hs : Region.noSelect ops = true := by kernel_rfl) (hf : Region.free .any ops listed i = true := by kernel_rfl) (hr : (Region.ready .any ops listed).contains i = true := by kernel_rfl)
  (hp : ∀ c E F, ¬ Q (.panic c) E F := by exact fun _ _ _ h => h) (hw : Region.wanted ⟨some d, op, ty, pos, aft, gd⟩ (yE ops E) = true := by rfl) (hd : Nat.blt d n = true := by rfl) : RG P n ops Q (fuel + 1) listed Sp E F :=
 g_pu hi hs hf hr hp hy hh h hw hd
theorem gR (i : Nat) (v : Value) {fuel : Nat} {listed : Array Bool} {Sp : Pend} (hi : ops[i]? = some ⟨some d, op, ty, pos, aft, gd⟩) (hy : RD P E F ⟨some d, op, ty, pos, aft, gd⟩ v) (hh : holdF Sp F)
  (h : ∀ S : World → Prop, (∀ F, RD P E F ⟨some d, op, ty, pos, aft, gd⟩ v → allW F S) → RG P n ops Q fuel (listed.setIfInBounds i true) ((i, S) :: Sp) (upd E d v) F)
  (hs : Region.noSelect ops = true := by kernel_rfl) (hf : Region.free .any ops listed i = true := by kernel_rfl) (hr : (Region.ready .any ops listed).contains i = true := by kernel_rfl)
  (hp : ∀ c E F, ¬ Q (.panic c) E F := by exact fun _ _ _ h => h) (hw : Region.wanted ⟨some d, op, ty, pos, aft, gd⟩ (yE ops E) = true := by rfl) (hd : Nat.blt d n = true := by rfl) : RG P n ops Q (fuel + 1) listed Sp E F :=
 g_rd hi hs hf hr hp hy hh h hw hd
theorem gS (i : Nat) {fuel : Nat} {listed : Array Bool} {Sp : Pend} (hi : ops[i]? = some ⟨some d, op, ty, pos, aft, gd⟩) (hh : holdF Sp F)
  (h : RG P n ops Q fuel (listed.setIfInBounds i true) Sp (upd E d undef) F) (hs : Region.noSelect ops = true := by kernel_rfl) (hf : Region.free .any ops listed i = true := by kernel_rfl) (hr : (Region.ready .any ops listed).contains i = true := by kernel_rfl)
  (hp : ∀ c E F, ¬ Q (.panic c) E F := by exact fun _ _ _ h => h) (hw : Region.wanted ⟨some d, op, ty, pos, aft, gd⟩ (yE ops E) = false := by rfl) (hd : Nat.blt d n = true := by rfl) : RG P n ops Q (fuel + 1) listed Sp E F :=
 g_skip hi hs hf hr hp hh h hw hd
end
end Go.Proofs.YtnjcgpihfmklfaaDoor
