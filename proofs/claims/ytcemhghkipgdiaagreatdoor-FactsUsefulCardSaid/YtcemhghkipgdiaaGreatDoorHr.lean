/-
  The codec that writes: tokens, productions, levels, filters, grammars; Encode. Printed in part by a program (mkHr.py).
-/
import Derived.Test.YtcemhghkipgdiaaGreatDoorHk
namespace Go.Proofs.YtcemhghkipgdiaaGreatDoor
open Go Go.Proofs.Tryz Tr
set_option maxRecDepth 10000
section
end
instance (t:Tr):Decidable (t=leaf false):=match t with
 |leaf true=>isFalse (by simp)
 |leaf false=>isTrue rfl
 |node _ _ _=>isFalse (by simp)
theorem BV {d:Dia} {n:Nat} (h:iK d n):∃t:Tr,t.ok/\d=dia t/\tre d=t/\(aO t).length<=4096/\dY n t:=by
 obtain ⟨h1,h2⟩:=h;unfold chk at h1;split at h1
 ·cases h1
 ·rename_i hl;split at h1
  ·rename_i hv;obtain ⟨t,ht,rfl⟩:=hv;refine ⟨t,ht,rfl,fD ht,by simpa [dia,aL] using hl,?_⟩;refine qB (bu ht) (λx hx=> ?_) t (bH ht);obtain ⟨_,v,l,r,rfl,_,_⟩:=(bu ht).mem x hx;have:=h2 (br (aO t) (node v l r)) (Tw.2 ⟨_,hx,rfl⟩);simp only [br] at this;simp only [top];omega
  ·cases h1
abbrev vB (n:Nat):Value:=.int .u8 (n:Int)
theorem BW (a:Addr) (i j:Nat):Addr.add (Addr.add a i) j=Addr.add a (i+j):=by
 unfold Addr.add;by_cases hi:i=0
 ·simp [hi]
 ·by_cases hj:j=0
  ·simp [hj]
  ·simp [hi,hj,Nat.add_assoc]
theorem zV {F:PH} {a:Addr} {c d:Γ} {o:Nat} (h:F.row a c) (hd:(c.toList.drop o).take d.size=d.toList):F.row (a.add o) d:=by intro i hi;rw [BW];have:=congrArg (λl=>l[i]?) hd;simp only [T6 hi,List.getElem?_drop,Ux] at this;exact bM h (this.trans (by simp [hi]))
section
variable {G:PH} {bc:Nat}
end
theorem St.pinE {G F:PH} {As:List (Ψ)} {b:Nat} {o:Obj} (h:St G F (pt b o::As)):∃G',G.le G'/\G' b=some o/\St G' F As:=by obtain ⟨G',h1,⟨H,hA,hH⟩,h2⟩:=h.pin;exact ⟨G',h1,hH _ _ hA,h2⟩
theorem St.pinO {G F:PH} {As:List (Ψ)} {e n:Nat} {s:Sl} {vs:Ξ} (h:St G F (own s e n vs::As)):∃G',G.le G'/\RdS G' s n vs/\St G' F As:=by obtain ⟨G',h1,⟨H,hA,hH⟩,h2⟩:=h.pin;exact ⟨G',h1,(cf.rd hA).le hH,h2⟩
section
end
end Go.Proofs.YtcemhghkipgdiaaGreatDoor
