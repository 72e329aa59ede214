/-
  Regions in any order: a state that is reached on several ways is proved once.
-/
import Derived.Test.YtafojmoeaneedaaPhf
namespace Go.Proofs.Ytafojmoeaneedaa
open Go

theorem RG_list {P : Program} {n : Nat} {ops : Array Oper} {Q : Exit → En → PH → Prop} {fuel : Nat} {l l' : Array Bool} {Sp : Pend} {E : En} {F : PH} (h : l = l') (k : RG P n ops Q fuel l' Sp E F) : RG P n ops Q fuel l Sp E F := h ▸ k
theorem RG_share {P : Program} {n : Nat} {ops : Array Oper} {Q : Exit → En → PH → Prop} {fuel0 : Nat} {l0 : Array Bool} {Sp0 : Pend} {E0 : En} {F0 : PH} {A : Type} (C : A → En → PH → Prop) (fuel : Nat) (l : Array Bool) (Sp : A → Pend)
    (h : ∀ a E F, C a E F → RG P n ops Q fuel l (Sp a) E F) (k : (∀ a E F, C a E F → RG P n ops Q fuel l (Sp a) E F) → RG P n ops Q fuel0 l0 Sp0 E0 F0) : RG P n ops Q fuel0 l0 Sp0 E0 F0 := k h
end Go.Proofs.Ytafojmoeaneedaa
