/-
  Maps whose entries are stamped: updates, ranges.
-/
import Derived.Test.YtcemhghkipgdiaaGreatDoorIu
import Derived.Tactics
import Derived.Tactics2
import Derived.Recover
import Derived.MapKept
set_option maxRecDepth 10000
open Option renaming some->ZO,none->ZR
open Go.Obj renaming cells->ZP
open Bool renaming false->ZQ,true->ZT
open Go.Value renaming agg->ZU,bool->ZV,pointer->ZZ,tuple->Z2,slice->Z7
open Go.Addr renaming add->ZW,mk->ZX
open Int renaming toNat->ZY
noncomputable section
namespace Go.Proofs.YtcemhghkipgdiaaGreatDoor
open Go.IntKind (i64 u8 u64)
open Sl renaming v->ZS,nil->Z3
open Go Go.Proofs.Tryz Tr
theorem JK {g:Gr} (h1:bN g=ZQ) (h2:¬gh g):ic g=54:=by unfold ic;rw [Υ (by rw [h1];decide),Χ h2]
theorem JL {g:Gr} (h1:bN g=ZQ) (h2:gh g) (h3:¬dn g.ZJ.length [] g.ZI):ic g=51:=by unfold ic;rw [Υ (by rw [h1];decide),Υ (μ h2),Χ h3]
theorem JM {g:Gr} (h1:bN g=ZQ) (h2:gh g) (h3:dn g.ZJ.length [] g.ZI) (h4:¬eZ g):ic g=50:=by unfold ic;rw [Υ (by rw [h1];decide),Υ (μ h2),Υ (μ h3),Χ h4]
theorem Fy {g:Gr} {e:Int} (h1:bN g=ZQ) (h2:gh g) (h3:dn g.ZJ.length [] g.ZI) (h4:eZ g) (h5:cP g [] g.ZG=e) (h6:e≠0):ic g=e:=by unfold ic;rw [Υ (by rw [h1];decide),Υ (μ h2),Υ (μ h3),Υ (μ h4),Χ (by rw [h5];exact h6),h5]
theorem JN {g:Gr} (h1:bN g=ZQ) (h2:gh g) (h3:dn g.ZJ.length [] g.ZI) (h4:eZ g) (h5:cP g [] g.ZG=0) (h6:¬dg g [] g.lvs):ic g=53:=by unfold ic;rw [Υ (by rw [h1];decide),Υ (μ h2),Υ (μ h3),Υ (μ h4),Υ (by rw [h5];decide),Χ h6]
theorem JO {g:Gr} (h1:bN g=ZQ) (h2:gh g) (h3:dn g.ZJ.length [] g.ZI) (h4:eZ g) (h5:cP g [] g.ZG=0) (h6:dg g [] g.lvs) (h7:¬∀x∈g.fils,ce g x):ic g=53:=by unfold ic;rw [Υ (by rw [h1];decide),Υ (μ h2),Υ (μ h3),Υ (μ h4),Υ (by rw [h5];decide),Υ (μ h6),Χ h7]
section
end
section
end
section
end
section
end
section
end
section
end
open Go.ChangeShapes Go.WideShapes Go.ChangeAt Go.RowKit Go.Deep
set_option maxRecDepth 100000
section
variable {H:Type} {enc:TypeId×ξ->H} {P:Program} {W:World}
theorem xI {α:Type} {cells:α->Ξ} {k:Nat} (hk:∀o,(cells o).length=k):∀{os:List α} {i j:Nat},j<k->(os.flatMap cells)[i*k+j]? =(os[i]?).bind λo=>(cells o)[j]?
 |[],i,j,_=>by simp
 |o::os,0,j,hj=>by rw [YC,Y0,X5,X0 (by rw [hk];exact hj)];rfl
 |o::os,i+1,j,hj=>by rw [YC,X6 (by rw [hk,Za];omega),hk,show (i+1)*k+j - k=i*k+j by rw [Za];omega,xI hk hj];rfl
theorem jo {α:Type} {cells:α->Ξ} {k:Nat} (hk:∀o,(cells o).length=k):∀os:List α,(os.flatMap cells).length=os.length*k
 |[]=>by simp
 |o::os=>by rw [YC,XT,hk,jo hk os,X4,Za,Nat.add_comm]
theorem nu {α:Type} [Inhabited α] {t e k:Nat} {cells:α->Ξ} {Q:α->Prop} (ht:P.underlying t=ZO (.slice e)) (hk:P.cellsOf e=k) (hk0:0<k) (hlen:∀o,(cells o).length=k)
  (elem:∀{fuel:Nat} {cs:Ξ} {x:DataW H×List MemPlace},DataW.trod enc P W 0 (λ_=>ZT) ZT fuel e cs=ZO x->(x.1.weights P e).all (·<=reachBytes)=ZT->∃o,cs=cells o/\Q o)
  {fuel:Nat} {c:ξ} {x:DataW H×List MemPlace} (h:DataW.trod enc P W 0 (λ_=>ZT) ZT fuel t [c]=ZO x) (hw:(x.1.weights P t).all (·<=reachBytes)=ZT):
  ∃(sl:Sl) (os:List α),c=ZS sl/\RdS (hF W) sl k (os.flatMap cells)/\(∀o∈os,Q o)/\os.length=sl.len/\sl.len*P.bytesOf e<=reachBytes:=by
 rcases open_slice ht h with ⟨hcs,rfl⟩|⟨a,len,cap,m,n,D,Pl,hcs,_,hl,hm,hmm,rfl,hx⟩
 ·cases hcs;exact ⟨Z3,[],rfl,RdS.nil _ _,by simp,rfl,by simp [Z3]⟩
 ·cases hcs;simp only [if_true] at hmm;subst hmm;rw [hk] at hx;have hwD:∀i,i<len->((D i).weights P e).all (·<=reachBytes)=ZT:=λi hi=>by
   rw [Ym] at hw ⊢;intro y hy;refine hw y ?_;simp only [DataW.weights,ht];refine X8 _ (Zb _ ?_);have gen:∀(l:List (DataW H)) (d:DataW H),d∈l->∀y∈d.weights P e,y∈DataW.weightsAll P e l:=by
    intro l;induction l with
    |nil=>intro d hd;cases hd
    |cons a l ih=>
     intro d hd y hy;simp only [DataW.weightsAll,XR];rcases XP.1 hd with rfl|hd
     ·exact .inl hy
     ·exact .inr (ih d hd y hy)
   exact gen _ (D i) (X1.2 ⟨i,Yv.2 hi,rfl⟩) y hy
  have hb:m*P.bytesOf e<=reachBytes:=by simp only [DataW.weights,ht,Zx,Yt,δ,XW,Yq] at hw;rw [show len+(m - len)=m by omega] at hw;exact hw.1
  have ho:∀i,i<len->∃o:α,W.cells? 0 (a.add (i*k)) k=ZO (cells o)/\Q o:=λi hi=>by obtain ⟨cs,h1,h2⟩:=hx i (by omega);obtain ⟨o,rfl,h3⟩:=elem h2 (hwD i hi);exact ⟨o,h1,h3⟩
  obtain ⟨O,hO⟩:=choose_lt ho;refine ⟨⟨ZO a,len,m⟩,(List.range len).map O,rfl,⟨?_,hl,λhp=> ?_⟩,?_,by simp,YQ (YV _ hl) hb⟩
  ·rw [jo hlen];simp
  ·simp only at hp;have h0:=(World.cells?_some (hO 0 (by omega)).1).2.2 0 hk0;obtain ⟨v0,hv0⟩:∃v,(cells (O 0))[0]? =ZO v:=⟨_,N6 (by rw [hlen];exact hk0)⟩;have hs:=World.cell?_spot (v:=v0) (by rw [h0];exact hv0);obtain ⟨b,o,spot⟩:=a;simp [ZW] at hs;subst hs;refine ⟨b,o,rfl,λi hi=> ?_⟩;rw [jo hlen,XW,Yq] at hi;have hik:i / k<len:=Nat.div_lt_of_lt_mul (by rw [Nat.mul_comm];exact hi);have hr:i % k<k:=YT _ hk0;have h1:=(World.cells?_some (hO (i / k) hik).1).2.2 (i % k) hr;have h2:=xI hlen (os:=(List.range len).map O) (i:=i / k) (j:=i % k) hr;have hdm:i / k*k+i % k=i:=by rw [Nat.mul_comm];exact Nat.div_add_mod i k
   rw [hdm] at h2;rw [<- N6,h2];simp only [X2,Yo hik,YD,Option.bind_some];rw [<- h1,aG,aG,Nat.add_assoc,hdm];rfl
  ·intro o ho;obtain ⟨i,hi,rfl⟩:=X1.1 ho;exact (hO i (Yv.1 hi)).2
end
section
variable {H:Type} {enc:TypeId×ξ->H} {W:World}
instance:Inhabited (Ln×Sl):=⟨⟨⟨0,[],0,0⟩,Z3⟩⟩
instance:Inhabited Ru:=⟨⟨0,0,0,0,0⟩⟩
theorem Fz:prog.cellsOf 22=1:=by kernel_rfl
theorem vj:prog.cellsOf 91=4:=by kernel_rfl
theorem BU:prog.cellsOf 131=5:=by kernel_rfl
theorem JP:prog.cellsOf 26=5:=by kernel_rfl
theorem JQ:prog.cellsOf 23=1:=by kernel_rfl
theorem JR:prog.cellsOf 24=1:=by kernel_rfl
theorem fI {z:Int} (h:(Lit.int .u8 z).wf=ZT):∃n:Nat,z=n/\n<256:=by obtain ⟨h1,h2⟩:=Pf h;exact ⟨z.toNat,by omega,by omega⟩
theorem qL {fuel:Nat} {c:ξ} {x:DataW H×List MemPlace} (h:DataW.trod enc prog W 0 (λ_=>ZT) ZT fuel 22 [c]=ZO x) (hw:(x.1.weights prog 22).all (·<=reachBytes)=ZT):
  ∃(sl:Sl) (ns:Δ),c=ZS sl/\RdS (hF W) sl 1 (ns.map vB)/\(∀n∈ns,n<256)/\ns.length<=9000000000000000:=by
 obtain ⟨sl,zs,rfl,hr,hz,hb,_⟩:=HB underlying22 underlying5 sQ h hw;have e:(zs.map ZY).map vB=zs.map (Value.int .u8):=by rw [List.map_map];refine YR λz hz'=> ?_;obtain ⟨n,rfl,_⟩:=fI (hz z hz');simp only [Function.comp,N5]
 refine ⟨sl,zs.map ZY,rfl,by rw [e];exact hr,λn hn=> ?_,by rw [XW];exact KL hr hb⟩;obtain ⟨z,hz',rfl⟩:=X1.1 hn;obtain ⟨n,rfl,hn'⟩:=fI (hz z hz');rw [N5];exact hn'
theorem t7 {fuel:Nat} {cs:Ξ} {x:DataW H×List MemPlace} (h:DataW.trod enc prog W 0 (λ_=>ZT) ZT fuel 91 cs=ZO x) (hw:(x.1.weights prog 91).all (·<=reachBytes)=ZT):
  ∃o:Ln×Sl,cs=[vB o.1.left,o.2.v,vB o.1.cond,vB o.1.mark]/\(RdS (hF W) o.2 1 (o.1.right.map vB)/\o.1.left<256/\o.1.cond<256/\o.1.mark<256/\∀y∈o.1.right,y<256):=by
 obtain ⟨xs,n,_,rfl,hl,hxl,hf⟩:=DataW.trod_struct underlying91 h;rw [vj] at hl
 match cs,hl with
 |[c0,c1,c2,c3],_=>
 match xs,hxl with
 |[x0,x1,x2,x3],_=>
 have f0:=hf 0 _ rfl;have f1:=hf 1 _ rfl;have f2:=hf 2 _ rfl;have f3:=hf 3 _ rfl;simp only [List.getElem?_cons_zero,Yl] at f0 f1 f2 f3;obtain ⟨z0,e0,_,w0⟩:=DataW.trod_int underlying5 f0;obtain ⟨z2,e2,_,w2⟩:=DataW.trod_int underlying5 f2;obtain ⟨z3,e3,_,w3⟩:=DataW.trod_int underlying5 f3;cases e0;cases e2;cases e3;have hw1:(x1.1.weights prog 22).all (·<=reachBytes)=ZT:=by rw [Ym] at hw ⊢;intro y hy;refine hw y ?_;simp only [DataW.weights,underlying91];exact DataW.weights_mem_each (j:=1) rfl rfl y hy
 obtain ⟨sl,ns,rfl,hr,hn,_⟩:=qL f1 hw1;obtain ⟨n0,rfl,k0⟩:=fI w0;obtain ⟨n2,rfl,k2⟩:=fI w2;obtain ⟨n3,rfl,k3⟩:=fI w3;exact ⟨⟨⟨n0,ns,n2,n3⟩,sl⟩,rfl,hr,k0,k2,k3,hn⟩
theorem DZ {fuel:Nat} {cs:Ξ} {x:DataW H×List MemPlace} (h:DataW.trod enc prog W 0 (λ_=>ZT) ZT fuel 131 cs=ZO x) (_hw:(x.1.weights prog 131).all (·<=reachBytes)=ZT):
  ∃o:Ru,cs=[vB o.kind,vB o.a,vB o.b,vB o.c,vB o.cond]/\(o.kind<256/\o.a<256/\o.b<256/\o.c<256/\o.cond<256):=by
 obtain ⟨xs,n,_,rfl,hl,hxl,hf⟩:=DataW.trod_struct underlying131 h;rw [BU] at hl
 match cs,hl with
 |[c0,c1,c2,c3,c4],_=>
 match xs,hxl with
 |[x0,x1,x2,x3,x4],_=>
 have f0:=hf 0 _ rfl;have f1:=hf 1 _ rfl;have f2:=hf 2 _ rfl;have f3:=hf 3 _ rfl;have f4:=hf 4 _ rfl;simp only [List.getElem?_cons_zero,Yl] at f0 f1 f2 f3 f4;obtain ⟨z0,e0,_,w0⟩:=DataW.trod_int underlying5 f0;obtain ⟨z1,e1,_,w1⟩:=DataW.trod_int underlying5 f1;obtain ⟨z2,e2,_,w2⟩:=DataW.trod_int underlying5 f2;obtain ⟨z3,e3,_,w3⟩:=DataW.trod_int underlying5 f3;obtain ⟨z4,e4,_,w4⟩:=DataW.trod_int underlying5 f4;cases e0;cases e1;cases e2;cases e3;cases e4;obtain ⟨n0,rfl,k0⟩:=fI w0;obtain ⟨n1,rfl,k1⟩:=fI w1;obtain ⟨n2,rfl,k2⟩:=fI w2;obtain ⟨n3,rfl,k3⟩:=fI w3;obtain ⟨n4,rfl,k4⟩:=fI w4;exact ⟨⟨n0,n1,n2,n3,n4⟩,rfl,k0,k1,k2,k3,k4⟩
theorem pv {α β:Type} [Mem β] {F:PH} {cells:α->Ξ} {f:α->β}:∀{os:List α},(∀o∈os,Mem.rep F (f o) (cells o).toArray)->df F (os.map f) (os.map λo=>(cells o).toArray)
 |[],_=> .nil
 |o::os,h=> .cons (h o (by simp)) (pv λx hx=>h x (by simp [hx]))
theorem zt {α:Type} (cells:α->Ξ) (os:List α):cat (os.map λo=>(cells o).toArray)=os.flatMap cells:=by unfold cat;rw [List.flatMap_map]
theorem FA {fuel:Nat} {cs:Γ} {x:DataW H×List MemPlace} (h:DataW.trod enc prog W 0 (λ_=>ZT) ZT fuel 26 cs.toList=ZO x) (hw:(x.1.weights prog 26).all (·<=reachBytes)=ZT):
  ∃r:Rw,zZ (hF W) cs r:=by
 obtain ⟨xs,n,_,rfl,hl,hxl,hf⟩:=DataW.trod_struct underlying26 h;rw [JP] at hl;obtain ⟨cs⟩:=cs
 match cs,hl with
 |[c0,c1,c2,c3,c4],_=>
 match xs,hxl with
 |[x0,x1,x2,x3,x4],_=>
 have f0:=hf 0 _ rfl;have f1:=hf 1 _ rfl;have f2:=hf 2 _ rfl;have f3:=hf 3 _ rfl;have f4:=hf 4 _ rfl;simp only [List.getElem?_cons_zero,Yl] at f0 f1 f2 f3 f4;obtain ⟨z0,e0,_,w0⟩:=DataW.trod_int underlying5 f0;obtain ⟨z1,e1,_,w1⟩:=DataW.trod_int underlying5 f1;cases e0;cases e1;have hw2:(x2.1.weights prog 22).all (·<=reachBytes)=ZT:=by rw [Ym] at hw ⊢;intro y hy;refine hw y ?_;simp only [DataW.weights,underlying26];exact DataW.weights_mem_each (j:=2) rfl rfl y hy
 have hw3:(x3.1.weights prog 23).all (·<=reachBytes)=ZT:=by rw [Ym] at hw ⊢;intro y hy;refine hw y ?_;simp only [DataW.weights,underlying26];exact DataW.weights_mem_each (j:=3) rfl rfl y hy
 have hw4:(x4.1.weights prog 24).all (·<=reachBytes)=ZT:=by rw [Ym] at hw ⊢;intro y hy;refine hw y ?_;simp only [DataW.weights,underlying26];exact DataW.weights_mem_each (j:=4) rfl rfl y hy
 obtain ⟨sf,ns,rfl,hr2,hn2,_⟩:=qL f2 hw2;obtain ⟨sl,ls,rfl,hr3,hq3,_,_⟩:=nu (k:=4) (cells:=λo:Ln×Sl=>[vB o.1.left,o.2.v,vB o.1.cond,vB o.1.mark]) underlying23 vj (by decide) (λ_=>rfl) t7 f3 hw3;obtain ⟨sr,rs,rfl,hr4,hq4,_,_⟩:=nu (k:=5) (cells:=λo:Ru=>[vB o.kind,vB o.a,vB o.b,vB o.c,vB o.cond]) underlying24 BU (by decide) (λ_=>rfl) DZ f4 hw4;obtain ⟨n0,rfl,k0⟩:=fI w0;obtain ⟨n1,rfl,k1⟩:=fI w1;refine ⟨⟨n0,n1,ns,ls.map Prod.fst,rs⟩,⟨sf,sl,sr,rfl,hr2,⟨_,pv (f:=Prod.fst) (cells:=λo:Ln×Sl=>[vB o.1.left,o.2.v,vB o.1.cond,vB o.1.mark]) λo ho=> ?_,by rw [zt];exact hr3⟩,⟨_,?_,by rw [zt (λo:Ru=>[vB o.kind,vB o.a,vB o.b,vB o.c,vB o.cond])];exact hr4⟩⟩,k0,k1⟩
 ·obtain ⟨h1,h2⟩:=hq3 o ho;exact ⟨o.2,rfl,h1,h2⟩
 ·have:=pv (F:=hF W) (f:=λo:Ru=>o) (cells:=λo:Ru=>[vB o.kind,vB o.a,vB o.b,vB o.c,vB o.cond]) (os:=rs) λo ho=>⟨rfl,hq4 o ho⟩;rw [List.map_id'] at this;exact this
end
set_option maxRecDepth 100000
section
variable {H:Type} {enc:TypeId×ξ->H} {W:World}
theorem zv {fuel:Nat} {c:ξ} {x:DataW H×List MemPlace} (h:DataW.trod enc prog W 0 (λ_=>ZT) ZT fuel 23 [c]=ZO x) (hw:(x.1.weights prog 23).all (·<=reachBytes)=ZT):
  ∃(sl:Sl) (ls:List Ln),c=ZS sl/\RL (hF W) sl ls:=by
 obtain ⟨sl,ls,rfl,hr3,hq3,_,_⟩:=nu (k:=4) (cells:=λo:Ln×Sl=>[vB o.1.left,o.2.v,vB o.1.cond,vB o.1.mark]) underlying23 vj (by decide) (λ_=>rfl) t7 h hw;refine ⟨sl,ls.map Prod.fst,rfl,_,pv (f:=Prod.fst) (cells:=λo:Ln×Sl=>[vB o.1.left,o.2.v,vB o.1.cond,vB o.1.mark]) λo ho=> ?_,by rw [zt];exact hr3⟩;obtain ⟨h1,h2⟩:=hq3 o ho;exact ⟨o.2,rfl,h1,h2⟩
end
section
theorem qM {k:Nat}:∀{t:Tr},eK k t->∀{c d:Cf},(∀i,i<k->c i=d i)->t.ev c=t.ev d
 |ZL _,_,_,_,_=>rfl
 |ZM v l h,⟨h1,h2,h3⟩,c,d,hc=>by simp only [Tr.ev];rw [hc v h1,qM h2 hc,qM h3 hc]
def zw (c:Cf):Nat->Nat
 |0=>0
 |k+1=>zw c k+if c k=ZT then 2 ^ k else 0
theorem vk (c:Cf):∀k,zw c k<2 ^ k
 |0=>Nat.one_pos
 |k+1=>by have:=vk c k;rw [Nat.pow_succ,zw];split<;>omega
theorem qN (c:Cf):∀{k i:Nat},i<k->(zw c k).testBit i=c i
 |0,_,h=>by omega
 |k+1,i,h=>by
  have hlt:=vk c k;rw [zw];by_cases e:i=k
  ·subst e;by_cases hc:c i=ZT
   ·rw [Χ hc,Nat.add_comm,Nat.testBit_two_pow_add_eq,Nat.testBit_lt_two_pow hlt,hc];rfl
   ·rw [Υ hc,Zi,Nat.testBit_lt_two_pow hlt];simpa using (YK.2 hc).symm
  ·have hi:i<k:=by omega
   by_cases hc:c k=ZT
   ·rw [Χ hc,Nat.add_comm,Nat.testBit_two_pow_add_gt hi];exact qN c hi
   ·rw [Υ hc,Zi];exact qN c hi
theorem t8 {α:Type} {p q:α->Bool}:∀{l:List α},(∀x∈l,p x=ZT->q x=ZT)->(l.filter p).length<=(l.filter q).length/\∀x∈l,q x=ZT->p x=ZQ->(l.filter p).length<(l.filter q).length
 |[],_=>⟨XS _,λ_ h=>by cases h⟩
 |y::l,h=>by
  obtain ⟨h1,h2⟩:=t8 (l:=l) λx hx=>h x (X8 _ hx);have hy:=h y (by simp);have e1:((y::l).filter p).length=(l.filter p).length+if p y=ZT then 1 else 0:=by rw [List.filter_cons];split<;>simp
  have e2:((y::l).filter q).length=(l.filter q).length+if q y=ZT then 1 else 0:=by rw [List.filter_cons];split<;>simp
  rw [e1,e2];refine ⟨?_,λx hx hq hp=> ?_⟩
  ·by_cases hpy:p y=ZT
   ·rw [Χ hpy,Χ (hy hpy)];omega
   ·rw [Υ hpy];omega
  ·rcases XP.1 hx with rfl|hx
   ·rw [Χ hq,Υ (by rw [hp];exact Y8)];omega
   ·have:=h2 x hx hq hp;by_cases hpy:p y=ZT
    ·rw [Χ hpy,Χ (hy hpy)];omega
    ·rw [Υ hpy];omega
def wt (k:Nat) (t:Tr):Nat:=((List.range (2 ^ k)).filter λm=>t.ev λi=>m.testBit i).length
theorem Mh (k:Nat) (t:Tr):wt k t<=2 ^ k:=by unfold wt;exact YQ (List.length_filter_le _ _) (by rw [Yq];exact XS _)
theorem QC {k:Nat} {a b:Tr} (ha:Sx k a) (hb:Sx k b) (hle:∀c,a.ev c=ZT->b.ev c=ZT):wt k a<=wt k b/\(a≠b->wt k a<wt k b):=by
 obtain ⟨h1,h2⟩:=t8 (p:=λm:Nat=>a.ev λi=>m.testBit i) (q:=λm=>b.ev λi=>m.testBit i) (l:=List.range (2 ^ k)) λx _=>hle _;refine ⟨h1,λhne=> ?_⟩;have hex:¬∀c,a.ev c=b.ev c:=λh=>hne (dI ha.1 hb.1 h);have ⟨c,hc⟩:∃c,a.ev c≠b.ev c:=Classical.not_forall.1 hex;have e:∀{t:Tr},Sx k t->t.ev (λi=>(zw c k).testBit i)=t.ev c:=λht=>qM ht.2 λi hi=>qN c hi;have hac:a.ev c=ZQ:=by
  cases h:a.ev c with
  |false=>rfl
  |true=>exact absurd (h.trans (hle c h).symm) hc
 refine h2 (zw c k) (Yv.2 (vk c k)) ?_ ?_
 ·show b.ev _=ZT;rw [e hb];cases h:b.ev c with
  |true=>rfl
  |false=>exact absurd (hac.trans h.symm) hc
 ·show a.ev _=ZQ;rw [e ha,hac]
section
variable {κ:Type} {k:Nat}
def Sxs (k:Nat) (S:κ->Tr):Prop:=∀n,Sx k (S n)
def Lt' (S S':κ->Tr):Prop:=∀n c,(S n).ev c=ZT->(S' n).ev c=ZT
theorem Lt'.refl (S:κ->Tr):Lt' S S:=λ_ _ h=>h
theorem Lt'.trans {S T U:κ->Tr} (h:Lt' S T) (h':Lt' T U):Lt' S U:=λn c hc=>h' n c (h n c hc)
theorem Lt'.antisymm {S T:κ->Tr} (hS:Sxs k S) (hT:Sxs k T) (h:Lt' S T) (h':Lt' T S):S=T:=by
 funext n;refine dI (hS n).1 (hT n).1 λc=> ?_;cases e:(S n).ev c with
 |true=>exact (h n c e).symm
 |false=>
  cases e':(T n).ev c with
  |false=>rfl
  |true=>rw [h' n c e'] at e;cases e
def mu (k:Nat) (keys:List κ) (S:κ->Tr):Nat:=(keys.map λn=>2 ^ k - wt k (S n)).sum
theorem xJ {S T:κ->Tr} (hS:Sxs k S) (hT:Sxs k T) (h:Lt' S T):∀keys:List κ,mu k keys T<=mu k keys S/\∀n∈keys,S n≠T n->mu k keys T<mu k keys S
 |[]=>⟨XS _,λ_ h=>by cases h⟩
 |x::l=>by
  obtain ⟨h1,h2⟩:=xJ hS hT h l;obtain ⟨w1,w2⟩:=QC (hS x) (hT x) (h x);have a1:=Mh k (S x);have a2:=Mh k (T x);have e:∀S:κ->Tr,mu k (x::l) S=(2 ^ k - wt k (S x))+mu k l S:=λS=>by unfold mu;rw [Yf,List.sum_cons]
  rw [e,e];refine ⟨by omega,λn hn hne=> ?_⟩;rcases XP.1 hn with rfl|hn
  ·have:=w2 hne;omega
  ·have:=h2 n hn hne;omega
variable [DecidableEq κ]
def cQ (S:κ->Tr) (n:κ) (t:Tr):κ->Tr:=λi=>if i=n then t else S i
theorem ny (S:κ->Tr) (n:κ):cQ S n (S n)=S:=by
 funext i;unfold cQ;split
 ·rename_i e;rw [e]
 ·rfl
theorem Sxs.upd {S:κ->Tr} (h:Sxs k S) {n:κ} {t:Tr} (ht:Sx k t):Sxs k (cQ S n t):=λi=>by
 unfold cQ;split
 ·exact ht
 ·exact h i
def bx (S:κ->Tr) (n:κ) (d:Tr):κ->Tr:=cQ S n (ap2 oOr (S n) d)
theorem cR {S:κ->Tr} (h:Sxs k S) {n:κ} {d:Tr} (hd:Sx k d) (i:κ) (c:Cf):(bx S n d i).ev c=((S i).ev c || (decide (i=n) && d.ev c)):=by
 unfold bx cQ;by_cases e:i=n
 ·rw [Χ e,ζ e,e,(bq (h n).1 hd.1).2];rfl
 ·rw [Υ e,ι e];simp
theorem cC {S:κ->Tr} (h:Sxs k S) {n:κ} {d:Tr} (hd:Sx k d):Sxs k (bx S n d):=h.upd ((h n).ap2 hd)
theorem dK {S:κ->Tr} (h:Sxs k S) {n:κ} {d:Tr} (hd:Sx k d):Lt' S (bx S n d):=λi c hc=>by rw [cR h hd,hc];rfl
end
inductive Der (l:List Pr) (P:Nat->Tr) (st:Bool) (c:Cf):Int->Prop
 |mk (i:Nat) (x:Pr):l[i]? =ZO x->(P i).ev c=ZT->(∀s∈x.right,s.t=ZT->st=ZQ)->(∀s∈x.right,s.t=ZQ->Der l P st c s.i)->Der l P st c x.left
section
variable {k:Nat} {l:List Pr} {P:Nat->Tr} {st:Bool}
def dL (S:Int->Tr):Tr->List Sy->Tr
 |d,[]=>d
 |d,s::r=>dL S (if s.t=ZT then d else ap2 aY d (S s.i)) r
theorem bC {S:Int->Tr} (hS:Sxs k S):∀(r:List Sy) {d:Tr},Sx k d->Sx k (dL S d r)/\∀c,(dL S d r).ev c=(d.ev c && r.all λs=>s.t || (S s.i).ev c)
 |[],d,hd=>⟨hd,λc=>by simp [dL]⟩
 |s::r,d,hd=>by
  unfold dL;by_cases h:s.t=ZT
  ·rw [Χ h];obtain ⟨h1,h2⟩:=bC hS r hd;exact ⟨h1,λc=>by rw [h2,Zx,h];simp⟩
  ·rw [Υ h];obtain ⟨h1,h2⟩:=bC hS r (hd.ap2 (o:=aY) (hS s.i));refine ⟨h1,λc=> ?_⟩;rw [h2,Zx,(bq hd.1 (hS s.i).1).2,YK.2 h,Zy,Bool.and_assoc]
def gz (st:Bool) (x:Pr):Bool:=st && x.right.any (·.t)
def jh (st:Bool) (P:Nat->Tr):Nat->List Pr->(Int->Tr)->Int->Tr
 |_,[],S=>S
 |i,x::l,S=>jh st P (i+1) l (if gz st x=ZT then S else bx S x.left (dL S (P i) x.right))
theorem gA {S:Int->Tr} (hS:Sxs k S) {i:Nat} (hP:Sx k (P i)) (x:Pr):
  Sxs k (if gz st x=ZT then S else bx S x.left (dL S (P i) x.right))/\Lt' S (if gz st x=ZT then S else bx S x.left (dL S (P i) x.right)):=by
 obtain ⟨h1,_⟩:=bC hS x.right hP;split
 ·exact ⟨hS,Lt'.refl S⟩
 ·exact ⟨cC hS h1,dK hS h1⟩
theorem kP (hP:∀i,Sx k (P i)):∀(l:List Pr) (i:Nat) {S:Int->Tr},Sxs k S->Sxs k (jh st P i l S)/\Lt' S (jh st P i l S)/\∀n,jh st P i l S n≠S n->∃x∈l,x.left=n
 |[],i,S,hS=>⟨hS,Lt'.refl S,λn h=>absurd rfl h⟩
 |x::l,i,S,hS=>by
  obtain ⟨a1,a2⟩:=gA (st:=st) hS (hP i) x;unfold jh;obtain ⟨b1,b2,b3⟩:=kP hP l (i+1) a1;refine ⟨b1,a2.trans b2,λn hn=> ?_⟩;by_cases e:x.left=n
  ·exact ⟨x,by simp,e⟩
  ·have:(if gz st x=ZT then S else bx S x.left (dL S (P i) x.right)) n=S n:=by
    split
    ·rfl
    ·unfold bx cQ;rw [Υ (Ne.symm e)]
   obtain ⟨y,hy,hl⟩:=b3 n (by rw [this];exact hn);exact ⟨y,X8 _ hy,hl⟩
theorem oB (hP:∀i,Sx k (P i)):∀(l:List Pr) (i:Nat) {S:Int->Tr},Sxs k S->jh st P i l S=S->
  ∀(j:Nat) (x:Pr),l[j]? =ZO x->gz st x=ZQ->∀c,(dL S (P (i+j)) x.right).ev c=ZT->(S x.left).ev c=ZT
 |[],_,_,_,_,j,_,h,_=>by simp at h
 |y::l,i,S,hS,he,j,x,hj,hs=>by
  obtain ⟨a1,a2⟩:=gA (st:=st) hS (hP i) y;unfold jh at he;obtain ⟨b1,b2,_⟩:=kP (st:=st) hP l (i+1) a1;have e1:(if gz st y=ZT then S else bx S y.left (dL S (P i) y.right))=S:=by refine Lt'.antisymm a1 hS ?_ a2;rw [he] at b2;exact b2
  rw [e1] at he;cases j with
  |zero=>simp at hj;subst hj;rw [hs,Υ Y8] at e1;intro c hc;have:=cR hS (n:=y.left) (bC hS y.right (hP i)).1 y.left c;rw [e1,ζ rfl,YY] at this;rw [this];rw [Zi] at hc;rw [hc,Bool.or_true]
  |succ j=>intro c hc;refine oB hP l (i+1) hS he j x (by simpa using hj) hs c ?_;rw [show i+1+j=i+(j+1) by omega];exact hc
def Snd (l:List Pr) (P:Nat->Tr) (st:Bool) (S:Int->Tr):Prop:=∀n c,(S n).ev c=ZT->Der l P st c n
theorem xK (hP:∀i,Sx k (P i)):∀(m:List Pr) (i:Nat) {S:Int->Tr},(∀j x,m[j]? =ZO x->l[i+j]? =ZO x)->Sxs k S->Snd l P st S->Snd l P st (jh st P i m S)
 |[],_,_,_,_,h=>h
 |x::m,i,S,hl,hS,h=>by
  obtain ⟨a1,a2⟩:=gA (st:=st) hS (hP i) x;unfold jh;refine xK hP m (i+1) (λj y hj=>by rw [show i+1+j=i+(j+1) by omega];exact hl (j+1) y (by simpa using hj)) a1 ?_;by_cases hsk:gz st x=ZT
  ·rw [Χ hsk];exact h
  ·rw [Υ hsk];intro n c hc;obtain ⟨f1,f2⟩:=bC hS x.right (hP i);rw [cR hS f1] at hc;rcases YF.1 hc with hc|hc
   ·exact h n c hc
   ·obtain ⟨e,hc⟩:=X7.1 hc;have e:=ε e;rw [f2] at hc;obtain ⟨h1,h2⟩:=X7.1 hc;rw [Ym] at h2;rw [e];refine .mk i x (by have:=hl 0 x rfl;rwa [Zi] at this) h1 (λs hs ht=> ?_) λs hs ht=> ?_
    ·cases hst:st with
     |false=>rfl
     |true=>refine absurd ?_ hsk;unfold gz;rw [hst,YY,YO];exact ⟨s,hs,ht⟩
    ·have:=h2 s hs;rw [ht,Zy] at this;exact h _ _ this
theorem zx {S:Int->Tr} (hS:Sxs k S) (hP:∀i,Sx k (P i)) (hc:∀(j:Nat) (x:Pr),l[j]? =ZO x->gz st x=ZQ->∀c,(dL S (P j) x.right).ev c=ZT->(S x.left).ev c=ZT) {c:Cf} {n:Int} (h:Der l P st c n):(S n).ev c=ZT:=by
 induction h with
 |mk i x hi hp ht _ ih=>
  refine hc i x hi ?_ c ?_
  ·unfold gz;cases hst:st with
   |false=>rfl
   |true=>rw [YY,<- Zl,YO];rintro ⟨s,hs,h⟩;have:=ht s hs h;rw [hst] at this;cases this
  ·rw [(bC hS x.right (hP i)).2,hp,YY,Ym];intro s hs;cases h:s.t with
   |true=>rfl
   |false=>rw [Zy];exact ih s hs h
structure bZ (k:Nat) (l:List Pr) (P:Nat->Tr) (st:Bool) (S:Int->Tr):Prop where
 sx:Sxs k S
 iff:∀n c,(S n).ev c=ZT↔Der l P st c n
theorem FB {S:Int->Tr} (hP:∀i,Sx k (P i)) (hS:Sxs k S) (h:Snd l P st S) (he:jh st P 0 l S=S):bZ k l P st S:=
 ⟨hS,λn c=>⟨h n c,zx hS hP λj x hj hs c hc=>oB hP l 0 hS he j x hj hs c (by rw [X5];exact hc)⟩⟩
theorem bZ.eq {S T:Int->Tr} (h:bZ k l P st S) (h':bZ k l P st T):S=T:=
 Lt'.antisymm h.sx h'.sx (λn c hc=>(h'.iff n c).2 ((h.iff n c).1 hc)) λn c hc=>(h.iff n c).2 ((h'.iff n c).1 hc)
end
def Stp (l:List Pr) (P:Nat->Tr) (c:Cf) (a b:Int):Prop:=∃(i j:Nat) (x:Pr) (s:Sy),l[i]? =ZO x/\x.right[j]? =ZO s/\s.t=ZQ/\x.left=a/\s.i=b/\(P i).ev c=ZT/\
 ∀(m:Nat) (y:Sy),m≠j->x.right[m]? =ZO y->y.t=ZQ/\Der l P ZT c y.i
inductive Tg {α:Type} (R:α->α->Prop) (a:α):α->Prop
 |one {b:α}:R a b->Tg R a b
 |snoc {b d:α}:Tg R a b->R b d->Tg R a d
section
variable {α:Type} {R:α->α->Prop}
theorem Tg.trans {a b d:α} (h:Tg R a b) (h':Tg R b d):Tg R a d:=by
 induction h' with
 |one h1=>exact .snoc h h1
 |snoc _ h1 ih=>exact .snoc ih h1
theorem Tg.head {a b:α} (h:Tg R a b):∃d,R a d:=by
 induction h with
 |one h1=>exact ⟨_,h1⟩
 |snoc _ _ ih=>exact ih
end
def Pw (R:Nat->Nat->Prop):Nat->Nat->Nat->Prop
 |0,i,j=>R i j
 |k+1,i,j=>Pw R k i j\/(Pw R k i k/\Pw R k k j)
theorem Pw.join {R:Nat->Nat->Prop}:∀{k:Nat} {i m j:Nat},m<k->Pw R k i m->Pw R k m j->Pw R k i j
 |0,_,_,_,h,_,_=>by omega
 |k+1,i,m,j,hm,h1,h2=>by
  by_cases e:m=k
  ·subst e;refine .inr ⟨?_,?_⟩
   ·rcases h1 with h|⟨h,_⟩
    ·exact h
    ·exact h
   ·rcases h2 with h|⟨_,h⟩
    ·exact h
    ·exact h
  ·have hm:m<k:=by omega
   rcases h1 with h1|⟨h1,h1'⟩
   ·rcases h2 with h2|⟨h2,h2'⟩
    ·exact .inl (Pw.join hm h1 h2)
    ·exact .inr ⟨Pw.join hm h1 h2,h2'⟩
   ·rcases h2 with h2|⟨h2,h2'⟩
    ·exact .inr ⟨h1,Pw.join hm h1' h2⟩
    ·exact .inr ⟨h1,h2'⟩
theorem Pw.mono {R:Nat->Nat->Prop} {i j:Nat} (h:R i j):∀k,Pw R k i j
 |0=>h
 |k+1=> .inl (Pw.mono h k)
theorem Pw.of {R:Nat->Nat->Prop} {n:Nat} (hR:∀i j,R i j->i<n/\j<n) {i j:Nat} (h:Tg R i j):Pw R n i j:=by
 induction h with
 |one h=>exact Pw.mono h n
 |snoc h h1 ih=>exact Pw.join (hR _ _ h1).1 ih (Pw.mono h1 n)
inductive Rch (l:List Pr) (P:Nat->Tr) (fam:Tr) (start:Int) (c:Cf):Int->Prop
 |start:fam.ev c=ZT->Rch l P fam start c start
 |step (i:Nat) (x:Pr) (s:Sy):l[i]? =ZO x->(P i).ev c=ZT->Rch l P fam start c x.left->(∀y∈x.right,y.t=ZQ->Der l P ZQ c y.i)->s∈x.right->s.t=ZQ->Rch l P fam start c s.i
def Use (l:List Pr) (P:Nat->Tr) (fam:Tr) (start:Int) (c:Cf) (i:Nat):Prop:=∃x,l[i]? =ZO x/\(P i).ev c=ZT/\Rch l P fam start c x.left/\∀y∈x.right,y.t=ZQ->Der l P ZQ c y.i
section
variable {k:Nat} {l:List Pr} {P:Nat->Tr} {fam:Tr} {start:Int} {D:Int->Tr}
def eH (d:Tr):List Sy->(Int->Tr)->Int->Tr
 |[],S=>S
 |s::r,S=>eH d r (if s.t=ZT then S else bx S s.i d)
theorem eI {d:Tr} (hd:Sx k d):∀(r:List Sy) {S:Int->Tr},Sxs k S->Sxs k (eH d r S)/\∀n c,(eH d r S n).ev c=ZT↔(S n).ev c=ZT\/(d.ev c=ZT/\∃s∈r,s.t=ZQ/\s.i=n)
 |[],S,hS=>⟨hS,λn c=>⟨.inl,λh=>h.resolve_right λ⟨_,s,hs,_⟩=>by cases hs⟩⟩
 |s::r,S,hS=>by
  unfold eH;by_cases ht:s.t=ZT
  ·rw [Χ ht];obtain ⟨h1,h2⟩:=eI hd r hS;refine ⟨h1,λn c=>(h2 n c).trans ⟨λh=>h.imp id λ⟨a,s',b,e⟩=>⟨a,s',X8 _ b,e⟩,λh=>h.imp id λ⟨a,s',b,e,e'⟩=>⟨a,s',?_,e,e'⟩⟩⟩;rcases XP.1 b with rfl|b
   ·rw [ht] at e;cases e
   ·exact b
  ·rw [Υ ht];have ht:s.t=ZQ:=YK.2 ht;obtain ⟨h1,h2⟩:=eI hd r (cC hS hd (n:=s.i));refine ⟨h1,λn c=>(h2 n c).trans ?_⟩;rw [cR hS hd,YF,X7,δ];constructor
   ·rintro ((h|⟨h,h'⟩)|⟨h,s',a,b,e⟩)
    ·exact .inl h
    ·exact .inr ⟨h',s,by simp,ht,h.symm⟩
    ·exact .inr ⟨h,s',X8 _ a,b,e⟩
   ·rintro (h|⟨h,s',a,b,e⟩)
    ·exact .inl (.inl h)
    ·rcases XP.1 a with rfl|a
     ·exact .inl (.inr ⟨e.symm,h⟩)
     ·exact .inr ⟨h,s',a,b,e⟩
def fS (P:Nat->Tr) (D S:Int->Tr) (i:Nat) (x:Pr):Tr:=dL D (ap2 aY (S x.left) (P i)) x.right
theorem eg (hP:∀i,Sx k (P i)) (hD:Sxs k D) {S:Int->Tr} (hS:Sxs k S) (i:Nat) (x:Pr):
  Sx k (fS P D S i x)/\∀c,(fS P D S i x).ev c=ZT↔(S x.left).ev c=ZT/\(P i).ev c=ZT/\∀s∈x.right,s.t=ZQ->(D s.i).ev c=ZT:=by
 obtain ⟨h1,h2⟩:=bC hD x.right ((hS x.left).ap2 (o:=aY) (hP i));refine ⟨h1,λc=> ?_⟩;unfold fS;rw [h2,(bq (hS x.left).1 (hP i).1).2,X7,X7,Ym,and_assoc];refine and_congr_right λ_=>and_congr_right λ_=>forall_congr' λs=>forall_congr' λ_=> ?_;cases s.t<;>simp
def gb (P:Nat->Tr) (D:Int->Tr):Nat->List Pr->(Int->Tr)->Int->Tr
 |_,[],S=>S
 |i,x::l,S=>gb P D (i+1) l (eH (fS P D S i x) x.right S)
theorem iv (hP:∀i,Sx k (P i)) (hD:Sxs k D):∀(l:List Pr) (i:Nat) {S:Int->Tr},Sxs k S->Sxs k (gb P D i l S)/\Lt' S (gb P D i l S)
 |[],_,S,hS=>⟨hS,Lt'.refl S⟩
 |x::l,i,S,hS=>by obtain ⟨a1,a2⟩:=eI (eg hP hD hS i x).1 x.right hS;unfold gb;obtain ⟨b1,b2⟩:=iv hP hD l (i+1) a1;exact ⟨b1,Lt'.trans (λn c h=>(a2 n c).2 (.inl h)) b2⟩
theorem oC (hP:∀i,Sx k (P i)) (hD:Sxs k D):∀(l:List Pr) (i:Nat) {S:Int->Tr},Sxs k S->gb P D i l S=S->
  ∀(j:Nat) (x:Pr),l[j]? =ZO x->∀s∈x.right,s.t=ZQ->∀c,(fS P D S (i+j) x).ev c=ZT->(S s.i).ev c=ZT
 |[],_,_,_,_,j,_,h=>by simp at h
 |y::l,i,S,hS,he,j,x,hj=>by
  obtain ⟨a1,a2⟩:=eI (eg hP hD hS i y).1 y.right hS;unfold gb at he;obtain ⟨b1,b2⟩:=iv hP hD l (i+1) a1;have e1:eH (fS P D S i y) y.right S=S:=by refine Lt'.antisymm a1 hS ?_ λn c h=>(a2 n c).2 (.inl h);rw [he] at b2;exact b2
  rw [e1] at he;cases j with
  |zero=>simp at hj;subst hj;intro s hs ht c hc;rw [Zi] at hc;rw [<- e1];exact (a2 s.i c).2 (.inr ⟨hc,s,hs,ht,rfl⟩)
  |succ j=>intro s hs ht c hc;refine oC hP hD l (i+1) hS he j x (by simpa using hj) s hs ht c ?_;rw [show i+1+j=i+(j+1) by omega];exact hc
theorem xL (hP:∀i,Sx k (P i)) (hD:bZ k l P ZQ D):∀(m:List Pr) (i:Nat) {S:Int->Tr},(∀j x,m[j]? =ZO x->l[i+j]? =ZO x)->Sxs k S->(∀n c,(S n).ev c=ZT->Rch l P fam start c n)->
  ∀n c,(gb P D i m S n).ev c=ZT->Rch l P fam start c n
 |[],_,_,_,_,h=>h
 |x::m,i,S,hl,hS,h=>by
  obtain ⟨u1,u2⟩:=eg hP hD.sx hS i x;obtain ⟨a1,a2⟩:=eI u1 x.right hS;unfold gb;refine xL hP hD m (i+1) (λj y hj=>by rw [show i+1+j=i+(j+1) by omega];exact hl (j+1) y (by simpa using hj)) a1 λn c hc=> ?_;rcases (a2 n c).1 hc with hc|⟨hc2,s,hs,ht,rfl⟩
  ·exact h n c hc
  ·obtain ⟨v1,v2,v3⟩:=(u2 c).1 hc2;exact .step i x s (by have:=hl 0 x rfl;rwa [Zi] at this) v2 (h _ c v1) (λy hy hyt=>(hD.iff _ _).1 (v3 y hy hyt)) hs ht
structure BV (k:Nat) (l:List Pr) (P:Nat->Tr) (fam:Tr) (start:Int) (S:Int->Tr):Prop where
 sx:Sxs k S
 iff:∀n c,(S n).ev c=ZT↔Rch l P fam start c n
theorem FC {S:Int->Tr} (hP:∀i,Sx k (P i)) (hD:bZ k l P ZQ D) (hS:Sxs k S) (h:∀n c,(S n).ev c=ZT->Rch l P fam start c n) (h0:∀c,fam.ev c=ZT->(S start).ev c=ZT) (he:gb P D 0 l S=S):BV k l P fam start S:=by
 refine ⟨hS,λn c=>⟨h n c,λhr=> ?_⟩⟩;induction hr with
 |start hf=>exact h0 c hf
 |step i x s hi hp _ hd hs ht ih=>refine oC hP hD.sx l 0 hS he i x hi s hs ht c ?_;rw [X5];exact ((eg hP hD.sx hS i x).2 c).2 ⟨ih,hp,λy hy hyt=>(hD.iff _ _).2 (hd y hy hyt)⟩
theorem JS {S:Int->Tr} (hP:∀i,Sx k (P i)) (hD:bZ k l P ZQ D) (h:BV k l P fam start S) {i:Nat} {x:Pr} (hi:l[i]? =ZO x) (c:Cf):(fS P D S i x).ev c=ZT↔Use l P fam start c i:=by
 rw [(eg hP hD.sx h.sx i x).2 c];constructor
 ·rintro ⟨h1,h2,h3⟩;exact ⟨x,hi,h2,(h.iff _ _).1 h1,λy hy hyt=>(hD.iff _ _).1 (h3 y hy hyt)⟩
 ·rintro ⟨y,hy,h2,h1,h3⟩;rw [hi] at hy;cases hy;exact ⟨(h.iff _ _).2 h1,h2,λy hy hyt=>(hD.iff _ _).2 (h3 y hy hyt)⟩
end
def Bef (l:List Pr) (P:Nat->Tr) (c:Cf) (r:List Sy) (j:Nat):Prop:=∀(m:Nat) (y:Sy),m<j->r[m]? =ZO y->y.t=ZQ/\Der l P ZT c y.i
inductive Fst (l:List Pr) (P:Nat->Tr) (c:Cf):Int->Int->Prop
 |tok (i j:Nat) (x:Pr) (s:Sy):l[i]? =ZO x->(P i).ev c=ZT->(∀y∈x.right,y.t=ZQ->Der l P ZQ c y.i)->x.right[j]? =ZO s->Bef l P c x.right j->s.t=ZT->Fst l P c x.left s.i
 |non (i j:Nat) (x:Pr) (s:Sy) (t:Int):l[i]? =ZO x->(P i).ev c=ZT->(∀y∈x.right,y.t=ZQ->Der l P ZQ c y.i)->x.right[j]? =ZO s->Bef l P c x.right j->s.t=ZQ->Fst l P c s.i t->Fst l P c x.left t
section
variable {k:Nat} {l:List Pr} {P:Nat->Tr} {N D:Int->Tr}
def eN (d:Tr) (a b:Int):Φ->(Int×Int->Tr)->Int×Int->Tr
 |[],S=>S
 |t::ts,S=>eN d a b ts (bx S (b,t) (ap2 aY d (S (a,t))))
theorem gB {d:Tr} (hd:Sx k d) (a b:Int):∀(ts:Φ) {S:Int×Int->Tr},Sxs k S->Sxs k (eN d a b ts S)/\Lt' S (eN d a b ts S)/\
  (∀n c,(eN d a b ts S n).ev c=ZT->(S n).ev c=ZT\/(d.ev c=ZT/\n.1=b/\∃t∈ts,n.2=t/\(S (a,t)).ev c=ZT))/\∀t∈ts,∀c,d.ev c=ZT->(S (a,t)).ev c=ZT->(eN d a b ts S (b,t)).ev c=ZT
 |[],S,hS=>⟨hS,Lt'.refl S,λn c h=> .inl h,λt h=>by cases h⟩
 |t::ts,S,hS=>by
  have hx:Sx k (ap2 aY d (S (a,t))):=hd.ap2 (o:=aY) (hS _);have ex:∀c,(ap2 aY d (S (a,t))).ev c=(d.ev c && (S (a,t)).ev c):=(bq hd.1 (hS _).1).2;unfold eN;obtain ⟨h1,h2,h3,h4⟩:=gB hd a b ts (cC hS hx (n:=(b,t)));have key:∀n c,(bx S (b,t) (ap2 aY d (S (a,t))) n).ev c=ZT↔(S n).ev c=ZT\/(n=(b,t)/\d.ev c=ZT/\(S (a,t)).ev c=ZT):=λn c=>by rw [cR hS hx,ex,YF,X7,X7,δ]
  refine ⟨h1,(dK hS hx).trans h2,λn c hc=> ?_,λu hu c hdc hac=> ?_⟩
  ·rcases h3 n c hc with hc|⟨g1,g2,u,g3,g4,g5⟩
   ·rcases (key n c).1 hc with hc|⟨e,g1,g2⟩
    ·exact .inl hc
    ·exact .inr ⟨g1,by rw [e],t,by simp,by rw [e],g2⟩
   ·rcases (key (a,u) c).1 g5 with g5|⟨e,_,g6⟩
    ·exact .inr ⟨g1,g2,u,X8 _ g3,g4,g5⟩
    ·have e2:u=t:=congrArg Prod.snd e;exact .inr ⟨g1,g2,t,by simp,by rw [g4,e2],g6⟩
  ·rcases XP.1 hu with rfl|hu
   ·exact h2 _ c ((key (b,u) c).2 (.inr ⟨rfl,hdc,hac⟩))
   ·exact h4 u hu c hdc ((key (a,u) c).2 (.inl hac))
def fU (N:Int->Tr) (ts:Φ) (b:Int):Tr->List Sy->(Int×Int->Tr)->Int×Int->Tr
 |_,[],S=>S
 |d,s::r,S=>if s.t=ZT then bx S (b,s.i) d else fU N ts b (ap2 aY d (N s.i)) r (eN d s.i b ts S)
theorem gc (hN:Sxs k N) (ts:Φ) (b:Int):∀(r:List Sy) {d:Tr} {S:Int×Int->Tr},Sx k d->Sxs k S->Sxs k (fU N ts b d r S)/\Lt' S (fU N ts b d r S)
 |[],_,S,_,hS=>⟨hS,Lt'.refl S⟩
 |s::r,d,S,hd,hS=>by
  unfold fU;split
  ·exact ⟨cC hS hd,dK hS hd⟩
  ·obtain ⟨h1,h2,_⟩:=gB hd s.i b ts hS;obtain ⟨g1,g2⟩:=gc hN ts b r (hd.ap2 (o:=aY) (hN s.i)) h1;exact ⟨g1,h2.trans g2⟩
theorem oD (hN:Sxs k N) (ts:Φ) (b:Int):∀(r:List Sy) {d:Tr} {S:Int×Int->Tr},Sx k d->Sxs k S->fU N ts b d r S=S->
  ∀(j:Nat) (s:Sy) (c:Cf),r[j]? =ZO s->d.ev c=ZT->(∀(m:Nat) (y:Sy),m<j->r[m]? =ZO y->y.t=ZQ/\(N y.i).ev c=ZT)->
   (s.t=ZT->(S (b,s.i)).ev c=ZT)/\(s.t=ZQ->∀t∈ts,(S (s.i,t)).ev c=ZT->(S (b,t)).ev c=ZT)
 |[],_,_,_,_,_,j,_,_,h,_,_=>by simp at h
 |y::r,d,S,hd,hS,he,j,s,c,hj,hc,hb=>by
  unfold fU at he;by_cases hy:y.t=ZT
  ·rw [Χ hy] at he;cases j with
   |zero=>simp at hj;subst hj;refine ⟨λ_=> ?_,λh=>(by rw [hy] at h;cases h)⟩;have:=cR hS hd (n:=(b,y.i)) (b,y.i) c;rw [he,ζ rfl,YY,hc,Bool.or_true] at this;exact this
   |succ j=>have:=(hb 0 y (by omega) rfl).1;rw [hy] at this;cases this
  ·rw [Υ hy] at he;obtain ⟨h1,h2,h3,h4⟩:=gB hd y.i b ts hS;obtain ⟨g1,g2⟩:=gc hN ts b r (hd.ap2 (o:=aY) (hN y.i)) h1;have e1:eN d y.i b ts S=S:=by refine Lt'.antisymm h1 hS ?_ h2;rw [he] at g2;exact g2
   rw [e1] at he h4;cases j with
   |zero=>simp at hj;subst hj;exact ⟨λh=>absurd h hy,λ_ t ht hs=>h4 t ht c hc hs⟩
   |succ j=>have h0:=(hb 0 y (by omega) rfl).2;refine oD hN ts b r (hd.ap2 (o:=aY) (hN y.i)) hS he j s c (by simpa using hj) ?_ λm z hm hz=>hb (m+1) z (by omega) (by simpa using hz);rw [(bq hd.1 (hN y.i).1).2,hc,h0];rfl
def iw (P:Nat->Tr) (N D:Int->Tr) (ts:Φ):Nat->List Pr->(Int×Int->Tr)->Int×Int->Tr
 |_,[],S=>S
 |i,x::l,S=>iw P N D ts (i+1) l (fU N ts x.left (dL D (P i) x.right) x.right S)
theorem kQ (hP:∀i,Sx k (P i)) (hN:Sxs k N) (hD:Sxs k D) (ts:Φ):∀(l:List Pr) (i:Nat) {S:Int×Int->Tr},Sxs k S->Sxs k (iw P N D ts i l S)/\Lt' S (iw P N D ts i l S)
 |[],_,S,hS=>⟨hS,Lt'.refl S⟩
 |x::l,i,S,hS=>by obtain ⟨a1,a2⟩:=gc hN ts x.left x.right (bC hD x.right (hP i)).1 hS;unfold iw;obtain ⟨b1,b2⟩:=kQ hP hN hD ts l (i+1) a1;exact ⟨b1,a2.trans b2⟩
theorem oE (hP:∀i,Sx k (P i)) (hN:Sxs k N) (hD:Sxs k D) (ts:Φ):∀(l:List Pr) (i:Nat) {S:Int×Int->Tr},Sxs k S->iw P N D ts i l S=S->
  ∀(m:Nat) (x:Pr),l[m]? =ZO x->fU N ts x.left (dL D (P (i+m)) x.right) x.right S=S
 |[],_,_,_,_,m,_,h=>by simp at h
 |y::l,i,S,hS,he,m,x,hm=>by
  obtain ⟨a1,a2⟩:=gc hN ts y.left y.right (bC hD y.right (hP i)).1 hS;unfold iw at he;obtain ⟨b1,b2⟩:=kQ hP hN hD ts l (i+1) a1;have e1:fU N ts y.left (dL D (P i) y.right) y.right S=S:=by refine Lt'.antisymm a1 hS ?_ a2;rw [he] at b2;exact b2
  rw [e1] at he;cases m with
  |zero=>simp at hm;subst hm;rw [Zi];exact e1
  |succ m=>rw [show i+(m+1)=i+1+m by omega];exact oE hP hN hD ts l (i+1) hS he m x (by simpa using hm)
theorem xM (hN:bZ k l P ZT N) (ts:Φ) {i:Nat} {x:Pr} (hi:l[i]? =ZO x):∀(r:List Sy) (j:Nat) {d:Tr} {S:Int×Int->Tr},Sx k d->Sxs k S->(∀(m:Nat) y,r[m]? =ZO y->x.right[j+m]? =ZO y)->
  (∀c,d.ev c=ZT->(P i).ev c=ZT/\(∀y∈x.right,y.t=ZQ->Der l P ZQ c y.i)/\Bef l P c x.right j)->(∀n c,(S n).ev c=ZT->Fst l P c n.1 n.2)->∀n c,(fU N ts x.left d r S n).ev c=ZT->Fst l P c n.1 n.2
 |[],_,_,_,_,_,_,_,h=>h
 |s::r,j,d,S,hd,hS,hr,hdd,h=>by
  have hsj:=hr 0 s rfl;rw [Zi] at hsj;unfold fU;by_cases hs:s.t=ZT
  ·rw [Χ hs];intro n c hc;rw [cR hS hd,YF,X7,δ] at hc;rcases hc with hc|⟨rfl,hc⟩
   ·exact h n c hc
   ·obtain ⟨g1,g2,g3⟩:=hdd c hc;exact .tok i j x s hi g1 g2 hsj g3 hs
  ·rw [Υ hs];have hs:s.t=ZQ:=YK.2 hs;obtain ⟨h1,h2,h3,_⟩:=gB hd s.i x.left ts hS;refine xM hN ts hi r (j+1) (hd.ap2 (o:=aY) (hN.sx s.i)) h1 (λm y hm=>by rw [show j+1+m=j+(m+1) by omega];exact hr (m+1) y (by simpa using hm)) (λc hc=> ?_) λn c hc=> ?_
   ·rw [(bq hd.1 (hN.sx s.i).1).2,X7] at hc;obtain ⟨g1,g2,g3⟩:=hdd c hc.1;refine ⟨g1,g2,λm y hm hy=> ?_⟩;by_cases e:m=j
    ·subst e;rw [hsj] at hy;cases hy;exact ⟨hs,(hN.iff _ _).1 hc.2⟩
    ·exact g3 m y (by omega) hy
   ·rcases h3 n c hc with hc|⟨g1,g2,t,_,g4,g5⟩
    ·exact h n c hc
    ·obtain ⟨q1,q2,q3⟩:=hdd c g1;rw [g2,g4];exact .non i j x s t hi q1 q2 hsj q3 hs (h _ _ g5)
theorem xN (hP:∀i,Sx k (P i)) (hN:bZ k l P ZT N) (hD:bZ k l P ZQ D) (ts:Φ):∀(m:List Pr) (i:Nat) {S:Int×Int->Tr},(∀j x,m[j]? =ZO x->l[i+j]? =ZO x)->Sxs k S->(∀n c,(S n).ev c=ZT->Fst l P c n.1 n.2)->
  ∀n c,(iw P N D ts i m S n).ev c=ZT->Fst l P c n.1 n.2
 |[],_,_,_,_,h=>h
 |x::m,i,S,hl,hS,h=>by
  obtain ⟨f1,f2⟩:=bC hD.sx x.right (hP i);obtain ⟨a1,a2⟩:=gc hN.sx ts x.left x.right f1 hS;have hi:l[i]? =ZO x:=by have:=hl 0 x rfl;rwa [Zi] at this
  unfold iw;refine xN hP hN hD ts m (i+1) (λj y hj=>by rw [show i+1+j=i+(j+1) by omega];exact hl (j+1) y (by simpa using hj)) a1 ?_;refine xM hN ts hi x.right 0 f1 hS (λm y hm=>by rwa [X5]) (λc hc=> ?_) h;rw [f2,X7,Ym] at hc;exact ⟨hc.1,λy hy hyt=>(hD.iff _ _).1 (by have:=hc.2 y hy;rwa [hyt,Zy] at this),λm y hm=>by omega⟩
structure xO (k:Nat) (l:List Pr) (P:Nat->Tr) (S:Int×Int->Tr):Prop where
 sx:Sxs k S
 iff:∀n c,(S n).ev c=ZT↔Fst l P c n.1 n.2
theorem FD {S:Int×Int->Tr} {ts:Φ} (hts:∀x∈l,∀s∈x.right,s.t=ZT->s.i∈ts) (hP:∀i,Sx k (P i)) (hN:bZ k l P ZT N) (hD:bZ k l P ZQ D) (hS:Sxs k S) (h:∀n c,(S n).ev c=ZT->Fst l P c n.1 n.2)
  (he:iw P N D ts 0 l S=S):xO k l P S:=by
 have hin:∀{c:Cf} {a t:Int},Fst l P c a t->t∈ts:=λhf=>by
  induction hf with
  |tok i j x s hi _ _ hj _ hs=>exact hts x (XQ hi) s (XQ hj) hs
  |non _ _ _ _ _ _ _ _ _ _ _ _ ih=>exact ih
 refine ⟨hS,λn c=>⟨h n c,λhf=> ?_⟩⟩;have key:∀{a t:Int},Fst l P c a t->(S (a,t)).ev c=ZT:=λ{a t} hf=>by
  have cl:∀{i j:Nat} {x:Pr} {s:Sy},l[i]? =ZO x->(P i).ev c=ZT->(∀y∈x.right,y.t=ZQ->Der l P ZQ c y.i)->x.right[j]? =ZO s->Bef l P c x.right j->
    (s.t=ZT->(S (x.left,s.i)).ev c=ZT)/\(s.t=ZQ->∀t∈ts,(S (s.i,t)).ev c=ZT->(S (x.left,t)).ev c=ZT):=λ{i j x s} hi hp hd hj hb=>by
   have he2:=oE hP hN.sx hD.sx ts l 0 hS he i x hi;rw [X5] at he2;refine oD hN.sx ts x.left x.right (bC hD.sx x.right (hP i)).1 hS he2 j s c hj ?_ λm y hm hy=>⟨(hb m y hm hy).1,(hN.iff _ _).2 (hb m y hm hy).2⟩;rw [(bC hD.sx x.right (hP i)).2,hp,YY,Ym];intro y hy;cases hyt:y.t with
   |true=>rfl
   |false=>rw [Zy];exact (hD.iff _ _).2 (hd y hy hyt)
  induction hf with
  |tok i j x s hi hp hd hj hb hs=>exact (cl hi hp hd hj hb).1 hs
  |non i j x s t hi hp hd hj hb hs hf ih=>exact (cl hi hp hd hj hb).2 hs t (hin hf) ih
 exact key hf
end
variable {R:VR} {F:PH}
set_option maxHeartbeats 4000000
def QD (c:Γ) (R:VR) (F:PH):Prop:=Nb F (ZP c 37) λg F=>Nb F (ZP (#[Z7 ZR 0 0]) 39) λb F=>Lr F 9 (Am g 0) λd=>Ci 51 #[ZU d,.func (.func 52) #[] #[(Pp g),(Pp b)]] F λe F=>Ls F (Am b 0) λf=>sto F (Am b 0) (ZS f) λF=>Ls F (Am b 0) λa=>R (Z2 #[ZS a,(vi e)]) F
theorem VX {a:Γ} (h:QD a R F):ν 14 #[ZU a] F R:=Rx.Λ .N h
def QE (c:Γ) (R:VR) (F:PH):Prop:=Nb F (ZP c 37) λg F=>Nb F (ZP (#[Z7 ZR 0 0]) 39) λb F=>Lr F 9 (Am g 0) λd=>Ci 51 #[ZU d,.func (.func 57) #[] #[(Pp g),(Pp b)]] F λe F=>Ls F (Am b 0) λf=>sto F (Am b 0) (ZS f) λF=>Ls F (Am b 0) λa=>R (Z2 #[ZS a,(vi e)]) F
theorem VY {a:Γ} (h:QE a R F):ν 16 #[ZU a] F R:=Rx.Λ .N h
def QF (c:Γ) (R:VR) (F:PH):Prop:=Nb F (ZP c 37) λg F=>Nb F (ZP (#[Z7 ZR 0 0]) 39) λb F=>Lr F 9 (Am g 0) λd=>Ci 51 #[ZU d,.func (.func 58) #[] #[(Pp g),(Pp b)]] F λe F=>Ls F (Am b 0) λf=>sto F (Am b 0) (ZS f) λF=>Ls F (Am b 0) λa=>R (Z2 #[ZS a,(vi e)]) F
theorem VZ {a:Γ} (h:QF a R F):ν 19 #[ZU a] F R:=Rx.Λ .N h
def QG (c:Γ) (R:VR) (F:PH):Prop:=Nb F (ZP c 37) λg F=>Nb F (ZP (#[Z7 ZR 0 0]) 39) λb F=>Lr F 9 (Am g 0) λd=>Ci 51 #[ZU d,.func (.func 62) #[] #[(Pp g),(Pp b)]] F λe F=>Ls F (Am b 0) λf=>sto F (Am b 0) (ZS f) λF=>Ls F (Am b 0) λa=>R (Z2 #[ZS a,(vi e)]) F
theorem V0 {a:Γ} (h:QG a R F):ν 21 #[ZU a] F R:=Rx.Λ .N h
def QH (c:Γ) (R:VR) (F:PH):Prop:=Nb F (ZP c 37) λf F=>Nb F (ZP (#[ZV ZQ]) 4) λd F=>sto F (Am d 0) (ZV ZQ) λF=>Lr F 9 (Am f 0) λe=>Ci 51 #[ZU e,.func (.func 71) #[] #[(Pp d)]] F λa F=>Bc (a=0) (Lb F (Am d 0) λb=>Bb (b) (R (vi 60) F) (R (vi a) F)) (R (vi a) F)
theorem V1 {a:Γ} (h:QH a R F):ν 23 #[ZU a] F R:=Rx.Λ .N h
def QI (c:Γ) (R:VR) (F:PH):Prop:=Nb F (ZP c 37) λg F=>Nb F (ZP (#[Z7 ZR 0 0]) 46) λb F=>Lr F 9 (Am g 0) λd=>Ci 51 #[ZU d,.func (.func 72) #[] #[(Pp g),(Pp b)]] F λe F=>Ls F (Am b 0) λf=>sto F (Am b 0) (ZS f) λF=>Ls F (Am b 0) λa=>R (Z2 #[ZS a,(vi e)]) F
theorem V2 {a:Γ} (h:QI a R F):ν 25 #[ZU a] F R:=Rx.Λ .N h
def FE (b:ξ) (g e:Nat) (R:VR) (F:PH):Prop:=Fn b λf c d=>aj prog f (c++([(Pp e)]).toArray++d) F λv F=>v=(Z2 #[])/\sto F (Am g 0) (vi 0) λF=>Li F (Am g 0) λa=>R (vi a) F
def FF (d:Ω) (_:ξ) (_ _ _:Nat) (_:Sl) (a:Int) (_:VR) (F:PH):Prop:=d (i64.wrap (a+1)) F
def zy (i:Ω) (b:ξ) (j k c l:Nat) (d:Sl) (e:Int) (R:VR) (F:PH):Prop:=Ls F (Am c 9) λf=>Lr F 2 (Am l 0) λa=>a.size=2/\Nb F (ZP a 31) λh F=>Ap 39 #[ZS f,ZS (Sb h 1)] F λg F=>sto F (Am c 9) (ZS g) λF=>FF i b j k c d e R F
def vl (_ f:Ω) (_:ξ) (_ _ _ _:Nat) (_:Sl) (_:Int) (_:Sl) (a:Int) (_:VR) (F:PH):Prop:=f (i64.wrap (a+1)) F
def vm (u x:Ω) (b:ξ) (l w k m:Nat) (f:Sl) (g:Int) (c:Sl) (R:VR) (a:Int) (F:PH):Prop:=Bc (a<(c.len:Int)) (Ix c a λn=>Lr F 2 (ZW n (ZY a*2)) λo=>Nb F (ZP (#[ZV ZQ,vi 0]) 63) λh F=>aw F (Am h 0) 2 o λF=>Lb F (Am h 0) λp=>Bb (p) (Lr F 2 (Am m 0) λq=>Ls F (Am l 3) λi=>Li F (Am h 1) λd=>Ix i d λr=>Lr F 2 (ZW (ZW r (ZY d*7)) 5) λs=>ν 35 #[ZU q,ZU s] F λv F=>∃j,∃e,v=(Z2 #[ZU j,(vi e)])/\F.cell (Am h 1)=ZO (vi d)/\F.cell (Am l 3)=ZO (ZS i)/\Ca 65 #[ZU j,(vi e)] F λt F=>F.cell (Am h 1)=ZO (vi d)/\F.cell (Am l 3)=ZO (ZS i)/\aw F (Am m 0) 2 t λF=>vl u x b l w k m f g c a R F) (vl u x b l w k m f g c a R F)) (zy u b l w k m f g R F)
def zA (t:Ω) (c:ξ) (q r g:Nat) (d:Sl) (R:VR) (a:Int) (F:PH):Prop:=Bc (a<(d.len:Int)) (Ix d a λh=>Lr F 13 (ZW h (ZY a*13)) λi=>Nb F (ZP zP 55) λo F=>aw F (Am o 0) 13 i λF=>Lr F 2 (Am q 1) λj=>Lr F 2 (Am o 3) λk=>ν 35 #[ZU j,ZU k] F λv F=>∃e,∃b,v=(Z2 #[ZU e,(vi b)])/\Ca 65 #[ZU e,(vi b)] F λl F=>Nb F (ZP zD 31) λs F=>aw F (Am s 0) 2 l λF=>Ls F (Am o 2) λm=>(∃(p:Nat->Ω) (n:Nat),p n 0 F/\∀n f F,p n f F-> vm t (nx1 p n) c q r g s d a m R f F)) (FE c r g R F)
def QJ (j:Γ) (d:ξ) (R:VR) (F:PH):Prop:=Nb F (ZP j 37) λh F=>Nb F (ZP (#[vi 0]) 40) λi F=>Lr F 9 (Am h 0) λe=>Ci 36 #[ZU e] F λb F=>Bc (b≠0) (sto F (Am i 0) (vi b) λF=>Li F (Am i 0) λa=>R (vi a) F) (AQ prog ⟨.fn (.func 112) #[(Pp i)],#[]++[].toArray⟩/\Lr F 9 (Am h 0) λc=>c.size=9/\Nb F (ZP (wr (#[Z7 ZR 0 0,.slice ZR 0 0,vi 0,.slice ZR 0 0,.slice ZR 0 0,.slice ZR 0 0,vi 0,.slice ZR 0 0,.slice ZR 0 0,.slice ZR 0 0]:Γ) 0 c.toList) 107) λk F=>Ls F (Am h 5) λf=>Lp 0 F λN g F=>zA N d h i k f R g F)
theorem V3 {b:Γ} {a:ξ} (h:QJ b a R F):ν 51 #[ZU b,a] F R:=Rx.Λ (.ZN (.ZN (.ZN (.ZN (.J ZQ [] (.ZN (.L [(24,.int .i64)] (.ZN (.ZN (.J ZQ [] (.ZN (.ZN (.J ZQ [] (.ZN (.L [(39,.int .i64)] (.ZN (.ZN (.J ZQ [] .N .N))))) .N))) .N))))) .N))))) h
def QM (e f g:Θ) (R:VR) (F:PH):Prop:=∃a,f=ZO a/\Ls F (ZW a 4) λc=>ν 54 #[ZZ e,ZV ZT] F λv F=>∃d:Option Nat,v=(.map d)/\F.cell (ZW a 4)=ZO (ZS c)/\Cs 53 #[.map d,(vi (c.len:Int))] F λh F=>F.cell (ZW a 4)=ZO (ZS c)/\∃b,g=ZO b/\sto F b (ZS h) λF=>R (Z2 #[]) F
theorem V4 {a:Θ} {b:Θ} {c:Θ} (h:QM a b c R F):ν 52 #[ZZ a,ZZ b,ZZ c] F R:=Rx.Λ .N h
def FG (a:Sl) (R:VR) (F:PH):Prop:=R (ZS a) F
def vn (j:Ω) (b:Option Nat) (d:Sl) (R:VR) (a:Int) (F:PH):Prop:=Bc (a<(d.len:Int)) (Ca 66 #[.map b,(vi a)] F λe F=>Nb F (ZP zD 31) λi F=>aw F (Am i 0) 2 e λF=>Ls F (Am i 0) λf=>Li F (Am i 1) λc=>Ap 29 #[ZS Z3,ZS f] F λg F=>F.cell (Am i 1)=ZO (vi c)/\Ix d a λh=>aw F (ZW h (ZY a*2)) 2 (#[ZS g,(vi c)]:Γ) λF=>j (i64.wrap (a+1)) F) (FG d R F)
def QN (a:Option Nat) (b:Int) (R:VR) (F:PH):Prop:=aH prog (Instr.makeSlice 39 (vi b) (vi b)) F λv F=>∃c,v=(ZS c)/\Lp 0 F λN d F=>vn N a c R d F
theorem V5 {a:Option Nat} {b:Int} (h:QN a b R F):ν 53 #[.map a,(vi b)] F R:=Rx.Λ (.ZN (.ZN (.J ZQ [] (.ZN (.L [(12,.int .i64)] .N)) .N))) h
def QO (e:Θ) (a:Bool) (R:VR) (F:PH):Prop:=Nb F (ZP #[ZZ e] 93) λf F=>Nb F (ZP #[ZV a] 4) λg F=>Nb F (.map #[] 0) λh F=>Nb F (ZP (#[.map ZR]) 95) λd F=>sto F (Am d 0) (.map (ZO h)) λF=>∃c:Option Nat,F.cell (Am d 0)=ZO (.map c)/\Cu 63 #[.map c,.func (.func 113) #[] #[(Pp f),(Pp g),(Pp d)]] F λF=>∃b:Option Nat,F.cell (Am d 0)=ZO (.map b)/\R (.map b) F
theorem V6 {b:Θ} {a:Bool} (h:QO b a R F):ν 54 #[ZZ b,ZV a] F R:=Rx.Λ .N h
def QP (e f g:Θ) (R:VR) (F:PH):Prop:=∃a,f=ZO a/\Ls F (ZW a 4) λc=>ν 54 #[ZZ e,ZV ZQ] F λv F=>∃d:Option Nat,v=(.map d)/\F.cell (ZW a 4)=ZO (ZS c)/\Cs 53 #[.map d,(vi (c.len:Int))] F λh F=>F.cell (ZW a 4)=ZO (ZS c)/\∃b,g=ZO b/\sto F b (ZS h) λF=>R (Z2 #[]) F
theorem V7 {a:Θ} {b:Θ} {c:Θ} (h:QP a b c R F):ν 57 #[ZZ a,ZZ b,ZZ c] F R:=Rx.Λ .N h
def QQ (e f g:Θ) (R:VR) (F:PH):Prop:=∃a,f=ZO a/\Ls F (ZW a 4) λc=>ν 59 #[ZZ e] F λv F=>∃d:Option Nat,v=(.map d)/\F.cell (ZW a 4)=ZO (ZS c)/\Cs 53 #[.map d,(vi (c.len:Int))] F λh F=>F.cell (ZW a 4)=ZO (ZS c)/\∃b,g=ZO b/\sto F b (ZS h) λF=>R (Z2 #[]) F
theorem V8 {a:Θ} {b:Θ} {c:Θ} (h:QQ a b c R F):ν 58 #[ZZ a,ZZ b,ZZ c] F R:=Rx.Λ .N h
def FH (a:Nat) (R:VR) (F:PH):Prop:=R (.map (ZO a)) F
def vo (e:Ω) (_:Addr) (_ _ _:Nat) (_:Sl) (a:Int) (_:VR) (F:PH):Prop:=e (i64.wrap (a+1)) F
def FI (i:Ω) (f:Addr) (j g c:Nat) (a:Int) (h:Nat) (d:Sl) (R:VR) (F:PH):Prop:=∃b:Option Nat,F.cell (Am h 0)=ZO (.map b)/\Ca 66 #[.map b,(vi a)] F λe F=>aH prog (Instr.mapUpdate 95 (.map (ZO c)) (vi a) (ZU e)) F λ_ F=>vo i f j g c d a R F
def FJ (q:Ω) (o:Ψ) (l:Addr) (p m n:Nat) (c:Int) (g d:Nat) (h:Sl) (R:VR) (F:PH):Prop:=Ls F (Am d 0) λi=>Bc ((0:Int)<(i.len:Int)) (Ls F (Am d 0) λj=>Ix j 0 λk=>Li F (ZW k (ZY 0*1)) λb=>Ls F (Am d 0) λa=>1<=a.len/\a.len<=a.cap/\sto F (Am d 0) (ZS (Sl.cut a 1 1 a.len a.cap)) λF=>Bc (b≠c) (∃e:Option Nat,F.cell (Am g 0)=ZO (.map e)/\∃f,rdo prog (Instr.lookup 95 (.map e) (vi b) ZQ) F (ZU f)/\Cu 121 #[(vi b),ZU f,(Pp m),(Pp g),(Pp p),(Pp d)] F λF=>o F) (o F)) (FI q l p m n c g h R F)
def zB (p:Ω) (c:Addr) (n g d:Nat) (b:Sl) (R:VR) (a:Int) (F:PH):Prop:=Bc (a<(b.len:Int)) (∃e:Option Nat,F.cell (Am g 0)=ZO (.map e)/\∃f,rdo prog (Instr.lookup 164 (.map e) (vi a) ZQ) F (ZS f)/\Bc ((f.len:Int)=0) (vo p c n g d b a R F) (Nb F (.map #[] 0) λk F=>Nb F (ZP (#[.map ZR]) 95) λh F=>sto F (Am h 0) (.map (ZO k)) λF=>Nb F (ZP #[] 3) λl F=>Nb F (ZP (#[Z7 ZR 0 0]) 67) λi F=>sto F (Am i 0) (ZS (Sb l 0)) λF=>Lr F 2 (ZW c 1) λj=>Cu 121 #[(vi a),ZU j,(Pp g),(Pp h),(Pp n),(Pp i)] F λF=>(∃(o:Nat->Ψ) (m:Nat),o m F/\∀m F,o m F-> FJ p (λF=>∃q,q<m/\o q F) c n g d a h i b R F))) (FH d R F)
def vp (e:Θ) (g f:Nat) (R:VR) (F:PH):Prop:=Nb F (.map #[] 0) λd F=>∃a,e=ZO a/\Ls F (ZW a 4) λb=>Lp 0 F λN c F=>zB N a g f d b R c F
def FK (q:Ψ) (p:Θ) (r d l:Nat) (R:VR) (F:PH):Prop:=aH prog (Instr.next (Pp l) ZQ 0) F λv F=>∃e,v=(Z2 e)/\∃f,e[0]? =ZO (ZV f)/\Bb (f) (∃g,rdo prog (Instr.entry (Pp l)) F (Z2 g)/\∃h,g[0]? =ZO (ZU h)/\Nb F (ZP (#[vi 0,vi 0]) 115) λc F=>aw F (Am c 0) 2 h λF=>∃a:Option Nat,F.cell (Am d 0)=ZO (.map a)/\0<=(0:Int)/\(0:Int)<2/\Li F (ZW (Am c 0) (ZY 0*1)) λi=>∃b:Option Nat,F.cell (Am d 0)=ZO (.map b)/\0<=(0:Int)/\(0:Int)<2/\Li F (ZW (Am c 0) (ZY 0*1)) λj=>∃k,rdo prog (Instr.lookup 164 (.map b) (vi j) ZQ) F (ZS k)/\0<=(1:Int)/\(1:Int)<2/\Li F (ZW (Am c 0) (ZY 1*1)) λm=>Nb F (ZP #[(vi m)] 3) λo F=>Ap 67 #[ZS k,ZS (Sb o 1)] F λn F=>F.cell (ZW (Am c 0) (ZY 0*1))=ZO (vi j)/\F.cell (Am d 0)=ZO (.map b)/\F.cell (ZW (Am c 0) (ZY 0*1))=ZO (vi i)/\F.cell (Am d 0)=ZO (.map a)/\aH prog (Instr.mapUpdate 164 (.map a) (vi i) (ZS n)) F λ_ F=>q F) (vp p r d R F)
def vq (e:Θ) (h:Nat) (R:VR) (F:PH):Prop:=Nb F (.map #[] 0) λf F=>Nb F (ZP (#[.map ZR]) 164) λc F=>sto F (Am c 0) (.map (ZO f)) λF=>∃a:Option Nat,F.cell (Am h 0)=ZO (.map a)/\aH prog (Instr.range 113 (.map a)) F λv F=>∃b:Nat,v=(Pp b)/\(∃(g:Nat->Ψ) (d:Nat),g d F/\∀d F,g d F-> FK (λF=>∃i,i<d/\g i F) e h c b R F)
def FL (e:Ω) (_:Addr) (_:Option Nat) (_:Nat) (_:Sl) (a:Int) (_:VR) (F:PH):Prop:=e (i64.wrap (a+1)) F
def nz (_ g:Ω) (_:Addr) (_:Option Nat) (_:Nat) (_:Int) (_:Nat) (_ _:Sl) (a:Int) (_:VR) (F:PH):Prop:=g (i64.wrap (a+1)) F
def FM (x y:Ω) (b:Addr) (f:Option Nat) (n:Nat) (g:Int) (w z o:Nat) (h i:Sl) (j:Int) (R:VR) (F:PH):Prop:=Li F (Am o 1) λp=>Bc (p≠0) (Li F (Am w 1) λq=>Li F (Am z 1) λr=>Nb F (ZP (#[vi 0,vi 0]) 115) λe F=>aw F (Am e 0) 2 (#[(vi q),(vi r)]:Γ) λF=>∃a:Option Nat,F.cell (Am n 0)=ZO (.map a)/\Lr F 2 (Am e 0) λc=>∃k:Option Nat,F.cell (Am n 0)=ZO (.map k)/\Lr F 2 (Am e 0) λs=>Lr F 2 (Am o 0) λl=>Ca 75 #[.map k,ZU s] F λt F=>F.row (Am o 0) l/\F.row (Am e 0) c/\F.cell (Am n 0)=ZO (.map a)/\ν 28 #[ZU t,ZU l] F λv F=>∃m,∃d,v=(Z2 #[ZU m,(vi d)])/\F.row (Am e 0) c/\F.cell (Am n 0)=ZO (.map a)/\Ca 65 #[ZU m,(vi d)] F λu F=>F.row (Am e 0) c/\F.cell (Am n 0)=ZO (.map a)/\aH prog (Instr.mapUpdate 113 (.map a) (ZU c) (ZU u)) F λ_ F=>nz x y b f n g w h i j R F) (nz x y b f n g w h i j R F)
def vr (_ _ i:Ω) (_:Addr) (_:Option Nat) (_:Nat) (_:Int) (_ _ _:Nat) (_ _:Sl) (_:Int) (_:Sl) (a:Int) (_:VR) (F:PH):Prop:=i (i64.wrap (a+1)) F
def zC (o p t:Ω) (a:Addr) (d:Option Nat) (q:Nat) (e:Int) (r s i:Nat) (f g:Sl) (h:Int) (c:Sl) (R:VR) (b:Int) (F:PH):Prop:=Bc (b<(c.len:Int)) (Ix c b λj=>Lr F 2 (ZW j (ZY b*2)) λk=>Nb F (ZP (#[ZV ZQ,vi 0]) 63) λl F=>aw F (Am l 0) 2 k λF=>Lb F (Am l 0) λm=>Bb (m) (Ca 27 #[ZV ZQ] F λn F=>aw F (Am i 0) 2 n λF=>vr o p t a d q e r s i f g h c b R F) (vr o p t a d q e r s i f g h c b R F)) (FM o p a d q e r s i f g h R F)
def zE (v A:Ω) (c:Addr) (f:Option Nat) (w:Nat) (d:Int) (i:Nat) (h g:Sl) (R:VR) (a:Int) (F:PH):Prop:=Bc (a<(g.len:Int)) (Ix g a λl=>Lr F 2 (ZW l (ZY a*2)) λm=>Nb F (ZP (#[ZV ZQ,vi 0]) 63) λx F=>aw F (Am x 0) 2 m λF=>Lb F (Am x 0) λn=>Bb (n) (nz v A c f w d i h g a R F) (Ls F (Am i 2) λe=>0<=a/\0<=(ZY a)/\(ZY a)<=e.cap/\Ls F (Am i 2) λb=>0<=(i64.wrap (a+1))/\(ZY (i64.wrap (a+1)))<=b.len/\b.len<=b.cap/\Nb F (ZP #[] 63) λy F=>Ap 50 #[ZS (Sb y 0),ZS (Sl.cut e 2 0 (ZY a) e.cap)] F λo F=>F.cell (Am i 2)=ZO (ZS b)/\F.cell (Am i 2)=ZO (ZS e)/\Ap 50 #[ZS o,ZS (Sl.cut b 2 (ZY (i64.wrap (a+1))) b.len b.cap)] F λj F=>F.cell (Am i 2)=ZO (ZS b)/\F.cell (Am i 2)=ZO (ZS e)/\Ls F (ZW c 9) λp=>Ix p d λq=>Lr F 2 (ZW q (ZY d*2)) λr=>Ca 67 #[ZU r,ZS j,.map f] F λs F=>Nb F (ZP zD 31) λt F=>aw F (Am t 0) 2 s λF=>(∃(z:Nat->Ω) (u:Nat),z u 0 F/\∀u k F,z u k F-> zC v A (nx1 z u) c f w d i x t h g a j R k F))) (FL v c f w h d R F)
def vu (m:Ω) (a:Addr) (e:Option Nat) (l:Nat) (c:Sl) (R:VR) (b:Int) (F:PH):Prop:=Bc (b<(c.len:Int)) (Ix c b λf=>Lr F 13 (ZW f (ZY b*13)) λg=>Nb F (ZP zP 55) λj F=>aw F (Am j 0) 13 g λF=>Ls F (Am j 2) λh=>(∃(k:Nat->Ω) (i:Nat),k i 0 F/\∀i d F,k i d F-> zE m (nx1 k i) a e l b j c h R d F)) (vq (ZO a) l R F)
def QR (c:Θ) (R:VR) (F:PH):Prop:=ν 54 #[ZZ c,ZV ZT] F λv F=>∃b:Option Nat,v=(.map b)/\Nb F (.map #[] 0) λf F=>Nb F (ZP (#[.map ZR]) 113) λg F=>sto F (Am g 0) (.map (ZO f)) λF=>∃a,c=ZO a/\Ls F (ZW a 5) λd=>Lp 0 F λN e F=>vu N a b g d R e F
theorem V9 {a:Θ} (h:QR a R F):ν 59 #[ZZ a] F R:=Rx.Λ (.ZN (.ZN (.ZN (.J ZQ [(0,.ptr)] (.ZN (.L [(31,.int .i64)] (.ZN (.ZN (.J ZQ [] (.ZN (.ZN (.L [(39,.int .i64)] (.ZN (.ZN (.J ZQ [] (.ZN (.ZN (.ZN (.ZN (.J ZQ [] (.ZN (.L [(70,.int .i64)] (.ZN (.ZN (.J ZQ [] .N .N))))) .N))))) .N)))))) .N))))) (.ZN (.J ZQ [] (.ZN (.L [] .N)) (.ZN (.J ZQ [] (.ZN (.L [(123,.int .i64)] (.ZN (.ZN (.J ZQ [] (.ZN (.ZN (.ZN (.ZN (.ZN (.ZN (.J ZQ [] (.L [] .N) .N))))))) .N))))) .N)))))))) h
def QS (j k l:Θ) (R:VR) (F:PH):Prop:=Nb F (ZP #[ZZ j] 93) λq F=>Lq F (Am q 0) λm=>ν 54 #[ZZ m,ZV ZQ] F λv F=>∃e:Option Nat,v=(.map e)/\Nb F (ZP (#[.map ZR]) 95) λr F=>sto F (Am r 0) (.map e) λF=>Nb F (.map #[] 0) λs F=>∃a,k=ZO a/\Li F (ZW a 6) λf=>Lr F 2 (ZW a 1) λg=>aH prog (Instr.mapUpdate 95 (.map (ZO s)) (vi f) (ZU g)) F λ_ F=>Nb F (ZP (#[.map ZR]) 95) λn F=>sto F (Am n 0) (.map (ZO s)) λF=>Nb F (.map #[] 0) λo F=>Nb F (ZP (#[.map ZR]) 95) λp F=>sto F (Am p 0) (.map (ZO o)) λF=>∃b:Option Nat,F.cell (Am n 0)=ZO (.map b)/\Cu 63 #[.map b,.func (.func 64) #[] #[ZZ (ZO a),(Pp n),(Pp q),(Pp r),(Pp p)]] F λF=>∃c:Option Nat,F.cell (Am p 0)=ZO (.map c)/\Ls F (ZW a 5) λh=>Cs 53 #[.map c,(vi (h.len:Int))] F λi F=>∃d,l=ZO d/\sto F d (ZS i) λF=>R (Z2 #[]) F
theorem Wa {a:Θ} {b:Θ} {c:Θ} (h:QS a b c R F):ν 62 #[ZZ a,ZZ b,ZZ c] F R:=Rx.Λ .N h
def FN (i:Θ->Ψ) (c:ξ) (j:Nat) (R:VR) (b:Θ) (F:PH):Prop:=∃a,b=ZO a/\Lb F a λg=>Bb (g) (sto F a (ZV ZQ) λF=>Fn c λk e f=>aj prog k (e++([(Value.func (.func 124) #[] #[(Pp j),(ZZ (ZO a))])]).toArray++f) F λv F=>v=(Z2 #[])/\Lb F a λh=>Nb F (ZP (#[ZV ZQ]) 4) λd F=>sto F (Am d 0) (ZV h) λF=>i (ZO (Am d 0)) F) (R (Z2 #[]) F)
def QT (c:Option Nat) (b:ξ) (R:VR) (F:PH):Prop:=Nb F (ZP #[.map c] 95) λg F=>Nb F (ZP (#[ZV ZQ]) 4) λf F=>sto F (Am f 0) (ZV ZT) λF=>(∃(e:Nat->Θ->Ψ) (d:Nat),e d (ZO (Am f 0)) F/\∀d a F,e d a F-> FN (nx1 e d) b g R a F)
theorem Wb {b:Option Nat} {a:ξ} (h:QT b a R F):ν 63 #[.map b,a] F R:=Rx.Λ (.ZN (.ZN (.L [(4,.ptr)] .N))) h
def FO (d:Ω) (_:ξ) (_ _ _ _:Θ) (_:Sl) (a:Int) (_:VR) (F:PH):Prop:=d (i64.wrap (a+1)) F
def vv (_ i:Ω) (_:ξ) (_ _:Θ) (_ _ _:Addr) (_:Sl) (_:Int) (_:Sl) (a:Int) (_:VR) (F:PH):Prop:=i (i64.wrap (a+1)) F
def zH (s u:Ω) (a:ξ) (i j:Θ) (d e f:Addr) (g:Sl) (h:Int) (c:Sl) (R:VR) (b:Int) (F:PH):Prop:=Bc (b<(c.len:Int)) (Ix c b λn=>Lr F 2 (ZW n (ZY b*2)) λo=>Nb F (ZP (#[ZV ZQ,vi 0]) 63) λk F=>aw F (Am k 0) 2 o λF=>Lb F (Am k 0) λp=>Bb ((!p)) (Li F (Am k 1) λq=>Lr F 2 f λr=>Fn a λt l m=>aj prog t (l++([(vi q),(ZU r)]).toArray++m) F λv F=>v=(Z2 #[])/\vv s u a i j d e f g h c b R F) (vv s u a i j d e f g h c b R F)) (FO s a i j (ZO d) (ZO e) g h R F)
def kR (w:Ω) (h:ξ) (p q r s:Θ) (d:Int) (v:Nat) (i:Sl) (t:Θ) (R:VR) (F:PH):Prop:=∃a,t=ZO a/\Lr F 2 a λj=>Ls F (Am v 2) λk=>∃b,r=ZO b/\∃e:Option Nat,F.cell b=ZO (.map e)/\Ca 67 #[ZU j,ZS k,.map e] F λl F=>aw F a 2 l λF=>∃c,s=ZO c/\∃f:Option Nat,F.cell c=ZO (.map f)/\Lr F 2 a λm=>aH prog (Instr.mapUpdate 95 (.map f) (vi d) (ZU m)) F λ_ F=>Ls F (Am v 2) λn=>(∃(u:Nat->Ω) (o:Nat),u o 0 F/\∀o g F,u o g F-> zH w (nx1 u o) h p q b c a i d n R g F)
def zI (I:Ω) (h:ξ) (J K r s:Θ) (f:Sl) (R:VR) (c:Int) (F:PH):Prop:=Bc (c<(f.len:Int)) (Ix f c λE=>Lr F 13 (ZW E (ZY c*13)) λG=>Nb F (ZP zP 55) λD F=>aw F (Am D 0) 13 G λF=>∃g,J=ZO g/\∃o:Option Nat,F.cell g=ZO (.map o)/\Li F (Am D 1) λy=>∃a,K=ZO a/\Lq F a λd=>∃b,d=ZO b/\Ls F (ZW b 9) λe=>Ix e c λp=>Lr F 2 (ZW p (ZY c*2)) λj=>((Ca 66 #[.map o,(vi y)] F λz F=>F.row (ZW p (ZY c*2)) j/\F.cell (ZW b 9)=ZO (ZS e)/\F.cell a=ZO (ZZ d)/\((ν 35 #[ZU z,ZU j] F λv F=>∃q,∃i,v=(Z2 #[ZU q,(vi i)])/\F.cell (ZW b 9)=ZO (ZS e)/\F.cell a=ZO (ZZ d)/\((Ca 65 #[ZU q,(vi i)] F λH F=>F.cell (ZW b 9)=ZO (ZS e)/\F.cell a=ZO (ZZ d)/\Nb F (ZP zD 31) λL F=>aw F (Am L 0) 2 H λF=>kR I h (ZO g) (ZO a) r s c D f (ZO (Am L 0)) R F)/\(Nb F (ZP zD 31) λA F=>Ca 65 #[ZU q,(vi i)] F λt F=>F.cell (ZW b 9)=ZO (ZS e)/\F.cell a=ZO (ZZ d)/\aw F (Am A 0) 2 t λF=>kR I h (ZO g) (ZO a) r s c D f (ZO (Am A 0)) R F)))/\(Nb F (ZP zD 31) λB F=>ν 35 #[ZU z,ZU j] F λv F=>∃k,∃l,v=(Z2 #[ZU k,(vi l)])/\F.cell (ZW b 9)=ZO (ZS e)/\F.cell a=ZO (ZZ d)/\Ca 65 #[ZU k,(vi l)] F λu F=>F.cell (ZW b 9)=ZO (ZS e)/\F.cell a=ZO (ZZ d)/\aw F (Am B 0) 2 u λF=>kR I h (ZO g) (ZO a) r s c D f (ZO (Am B 0)) R F)))/\(Nb F (ZP zD 31) λC F=>Ca 66 #[.map o,(vi y)] F λw F=>F.row (ZW p (ZY c*2)) j/\F.cell (ZW b 9)=ZO (ZS e)/\F.cell a=ZO (ZZ d)/\ν 35 #[ZU w,ZU j] F λv F=>∃m,∃n,v=(Z2 #[ZU m,(vi n)])/\F.cell (ZW b 9)=ZO (ZS e)/\F.cell a=ZO (ZZ d)/\Ca 65 #[ZU m,(vi n)] F λx F=>F.cell (ZW b 9)=ZO (ZS e)/\F.cell a=ZO (ZZ d)/\aw F (Am C 0) 2 x λF=>kR I h (ZO g) (ZO a) r s c D f (ZO (Am C 0)) R F))) (R (Z2 #[]) F)
def QU (b:ξ) (e f g h i:Θ) (R:VR) (F:PH):Prop:=∃a,e=ZO a/\Ls F (ZW a 5) λc=>Lp 0 F λN d F=>zI N b f g h i c R d F
theorem Wc {a:ξ} {b:Θ} {c:Θ} {d:Θ} {e:Θ} {f:Θ} (h:QU a b c d e f R F):ν 64 #[a,ZZ b,ZZ c,ZZ d,ZZ e,ZZ f] F R:=Rx.Λ (.ZN (.L [(15,.int .i64)] (.ZN (.ZN (.J ZQ [(4,.ptr),(5,.ptr)] (.ZN (.J ZQ [(2,.ptr),(3,.ptr),(9,.ptr)] .N (.ZN (.ZN (.ZN (.L [(46,.int .i64)] (.ZN (.ZN (.J ZQ [] .N .N))))))))) .N))))) h
def QV (b:Γ) (c:Int) (R:VR) (F:PH):Prop:=Nb F (ZP b 31) λe F=>Nb F (ZP zD 31) λd F=>Bc (c≠0) (False) (Lr F 2 (Am e 0) λa=>aw F (Am d 0) 2 a λF=>Rr 2 (Am d 0) R F)
theorem Wd {a:Γ} {b:Int} (h:QV a b R F):ν 65 #[ZU a,(vi b)] F R:=Rx.Λ .N h
def QW (b:Option Nat) (g:Int) (R:VR) (F:PH):Prop:=Nb F (ZP zD 31) λf F=>∃(c:Γ) (a:Bool),rdo prog (Instr.lookup 95 (.map b) (vi g) ZT) F (Z2 #[ZU c,ZV a])/\Nb F (ZP zD 31) λh F=>aw F (Am h 0) 2 c λF=>Bb (a) (Lr F 2 (Am h 0) λd=>aw F (Am f 0) 2 d λF=>Rr 2 (Am f 0) R F) (Ca 27 #[ZV ZQ] F λe F=>aw F (Am f 0) 2 e λF=>Rr 2 (Am f 0) R F)
theorem We {a:Option Nat} {b:Int} (h:QW a b R F):ν 66 #[.map a,(vi b)] F R:=Rx.Λ .N h
def FP (c b:Nat) (R:VR) (F:PH):Prop:=Lr F 2 (Am c 0) λa=>aw F (Am b 0) 2 a λF=>Rr 2 (Am b 0) R F
def vx (c:Ω) (_:Option Nat) (_ _:Nat) (_:Sl) (a:Int) (_:VR) (F:PH):Prop:=c (i64.wrap (a+1)) F
def vy (l:Ω) (a:Option Nat) (f m n:Nat) (g:Sl) (c:Int) (h:Bool) (R:VR) (F:PH):Prop:=Bb (h) (Lr F 2 (Am f 0) λd=>Li F (Am n 1) λi=>Ca 66 #[.map a,(vi i)] F λj F=>F.row (Am f 0) d/\ν 35 #[ZU d,ZU j] F λv F=>∃e,∃b,v=(Z2 #[ZU e,(vi b)])/\Ca 65 #[ZU e,(vi b)] F λk F=>aw F (Am f 0) 2 k λF=>vx l a f m g c R F) (vx l a f m g c R F)
def zJ (k:Ω) (b:Option Nat) (h j:Nat) (c:Sl) (R:VR) (a:Int) (F:PH):Prop:=Bc (a<(c.len:Int)) (Ix c a λd=>Lr F 2 (ZW d (ZY a*2)) λe=>Nb F (ZP (#[ZV ZQ,vi 0]) 63) λi F=>aw F (Am i 0) 2 e λF=>Lb F (Am i 0) λf=>Bb ((!f)) (Li F (Am h 1) λg=>vy k b h j i c a (decide (g≠0)) R F) (vy k b h j i c a ZQ R F)) (FP h j R F)
def QX (c:Γ) (d:Sl) (a:Option Nat) (R:VR) (F:PH):Prop:=Nb F (ZP c 31) λe F=>Nb F (ZP zD 31) λf F=>Lp 0 F λN b F=>zJ N a e f d R b F
theorem Wf {b:Γ} {c:Sl} {a:Option Nat} (h:QX b c a R F):ν 67 #[ZU b,ZS c,.map a] F R:=Rx.Λ (.ZN (.J ZQ [] (.ZN (.L [(11,.int .i64)] (.ZN (.ZN (.J ZQ [] (.ZN (.J ZQ [(22,.bool)] .N .N)) .N))))) .N)) h
def FQ (i:Ψ) (h:Θ) (j:Nat) (R:VR) (F:PH):Prop:=aH prog (Instr.next (Pp j) ZQ 0) F λv F=>∃d,v=(Z2 d)/\∃e,d[0]? =ZO (ZV e)/\Bb (e) (∃b,rdo prog (Instr.entry (Pp j)) F (Z2 b)/\∃c,b[1]? =ZO (ZU c)/\Nb F (ZP zD 31) λk F=>aw F (Am k 0) 2 c λF=>∃a,h=ZO a/\Lb F a λf=>Bb (f) (sto F a (ZV ZT) λF=>i F) (Li F (Am k 1) λg=>sto F a (ZV (decide (g≠0))) λF=>i F)) (R (Z2 #[]) F)
def QY (c d:Θ) (R:VR) (F:PH):Prop:=ν 59 #[ZZ c] F λv F=>∃a:Option Nat,v=(.map a)/\aH prog (Instr.range 95 (.map a)) F λv F=>∃f:Nat,v=(Pp f)/\(∃(e:Nat->Ψ) (b:Nat),e b F/\∀b F,e b F-> FQ (λF=>∃g,g<b/\e g F) d f R F)
theorem Wg {a:Θ} {b:Θ} (h:QY a b R F):ν 71 #[ZZ a,ZZ b] F R:=Rx.Λ (.ZN (.L [] .N)) h
def FR (d:Ω) (_:Addr) (_:Θ) (_:Nat) (_:Sl) (a:Int) (_:VR) (F:PH):Prop:=d (i64.wrap (a+1)) F
def FS (l:Ω) (b:Addr) (i:Θ) (m j:Nat) (e:Sl) (f:Int) (R:VR) (F:PH):Prop:=∃a,i=ZO a/\Ls F a λd=>Ls F (ZW b 3) λc=>Cs 53 #[.map (ZO j),(vi (c.len:Int))] F λg F=>F.cell (ZW b 3)=ZO (ZS c)/\F.cell a=ZO (ZS d)/\Nb F (ZP #[ZS g] 39) λk F=>Ap 46 #[ZS d,ZS (Sb k 1)] F λh F=>F.cell (ZW b 3)=ZO (ZS c)/\sto F a (ZS h) λF=>FR l b (ZO a) m e f R F
def zK (k l:Ω) (d:Addr) (i:Θ) (j:Nat) (b:Int) (e:Nat) (f g:Sl) (R:VR) (a:Int) (F:PH):Prop:=Bc (a<(g.len:Int)) (∃c:Option Nat,F.cell (Am j 0)=ZO (.map c)/\Ca 75 #[.map c,ZU (#[(vi b),(vi a)]:Γ)] F λh F=>aH prog (Instr.mapUpdate 95 (.map (ZO e)) (vi a) (ZU h)) F λ_ F=>l (i64.wrap (a+1)) F) (FS k d i j e f b R F)
def zM (j:Ω) (a:Addr) (g:Θ) (k:Nat) (b:Sl) (R:VR) (c:Int) (F:PH):Prop:=Bc (c<(b.len:Int)) (Nb F (.map #[] 0) λh F=>Ls F (ZW a 3) λe=>(∃(i:Nat->Ω) (f:Nat),i f 0 F/\∀f d F,i f d F-> zK j (nx1 i f) a g k c h b e R d F)) (R (Z2 #[]) F)
def QZ (k e l:Θ) (R:VR) (F:PH):Prop:=Nb F (ZP #[ZZ k] 93) λm F=>Lq F (Am m 0) λf=>ν 54 #[ZZ f,ZV ZT] F λv F=>∃b:Option Nat,v=(.map b)/\Nb F (ZP (#[.map ZR]) 95) λo F=>sto F (Am o 0) (.map b) λF=>Lq F (Am m 0) λg=>ν 54 #[ZZ g,ZV ZQ] F λv F=>∃c:Option Nat,v=(.map c)/\Nb F (ZP (#[.map ZR]) 95) λp F=>sto F (Am p 0) (.map c) λF=>Nb F (.map #[] 0) λn F=>Nb F (ZP (#[.map ZR]) 113) λj F=>sto F (Am j 0) (.map (ZO n)) λF=>∃d:Option Nat,F.cell (Am j 0)=ZO (.map d)/\Cu 73 #[.map d,.func (.func 74) #[] #[ZZ e,(Pp m),(Pp p),(Pp j),(Pp o)]] F λF=>∃a,e=ZO a/\Ls F (ZW a 4) λh=>Lp 0 F λN i F=>zM N a l j h R i F
theorem Wh {a:Θ} {b:Θ} {c:Θ} (h:QZ a b c R F):ν 72 #[ZZ a,ZZ b,ZZ c] F R:=Rx.Λ (.ZN (.ZN (.ZN (.ZN (.ZN (.ZN (.L [(21,.int .i64)] (.ZN (.ZN (.J ZQ [(2,.ptr)] (.ZN (.ZN (.J ZQ [] (.ZN (.L [(28,.int .i64)] .N)) .N))) .N)))))))))) h
def FT (i:Θ->Ψ) (c:ξ) (j:Nat) (R:VR) (b:Θ) (F:PH):Prop:=∃a,b=ZO a/\Lb F a λg=>Bb (g) (sto F a (ZV ZQ) λF=>Fn c λk e f=>aj prog k (e++([(Value.func (.func 125) #[] #[(Pp j),(ZZ (ZO a))])]).toArray++f) F λv F=>v=(Z2 #[])/\Lb F a λh=>Nb F (ZP (#[ZV ZQ]) 4) λd F=>sto F (Am d 0) (ZV h) λF=>i (ZO (Am d 0)) F) (R (Z2 #[]) F)
def Q0 (c:Option Nat) (b:ξ) (R:VR) (F:PH):Prop:=Nb F (ZP #[.map c] 113) λg F=>Nb F (ZP (#[ZV ZQ]) 4) λf F=>sto F (Am f 0) (ZV ZT) λF=>(∃(e:Nat->Θ->Ψ) (d:Nat),e d (ZO (Am f 0)) F/\∀d a F,e d a F-> FT (nx1 e d) b g R a F)
theorem Wi {b:Option Nat} {a:ξ} (h:Q0 b a R F):ν 73 #[.map b,a] F R:=Rx.Λ (.ZN (.ZN (.L [(4,.ptr)] .N))) h
def qO (e:Ω) (_:ξ) (_:Addr) (_ _ _ _:Θ) (_:Sl) (a:Int) (_:VR) (F:PH):Prop:=e (i64.wrap (a+1)) F
def FU (_ g:Ω) (_:ξ) (_:Addr) (_ _ _ _:Θ) (_:Nat) (_:Θ) (_:Sl) (_:Int) (_:Sl) (a:Int) (_:VR) (F:PH):Prop:=g (i64.wrap (a+1)) F
def FV (u w:Ω) (g:ξ) (h:Addr) (p q r s:Θ) (x:Nat) (a:Addr) (t:Nat) (i:Sl) (j:Int) (k:Sl) (l:Int) (R:VR) (F:PH):Prop:=Lr F 2 a λd=>∃c,s=ZO c/\∃e:Option Nat,F.cell c=ZO (.map e)/\Li F (Am t 1) λm=>Ca 66 #[.map e,(vi m)] F λn F=>F.row a d/\ν 35 #[ZU d,ZU n] F λv F=>∃f,∃b,v=(Z2 #[ZU f,(vi b)])/\Ca 65 #[ZU f,(vi b)] F λo F=>aw F a 2 o λF=>FU u w g h p q r (ZO c) x (ZO a) i j k l R F
def vz (_ _ j:Ω) (_:ξ) (_:Addr) (_ _ _ _:Θ) (_:Nat) (_:Addr) (_:Nat) (_:Sl) (_:Int) (_:Sl) (_:Int) (_:Sl) (a:Int) (_:VR) (F:PH):Prop:=j (i64.wrap (a+1)) F
def zN (E G I:Ω) (a:ξ) (g:Addr) (p q x r:Θ) (s:Nat) (c:Addr) (m:Nat) (h:Sl) (i:Int) (j:Sl) (k:Int) (l:Sl) (R:VR) (b:Int) (F:PH):Prop:=Bc (b<(l.len:Int)) (∃d,x=ZO d/\∃n:Option Nat,F.cell d=ZO (.map n)/\Li F (Am m 1) λy=>Ca 75 #[.map n,ZU (#[(vi y),(vi b)]:Γ)] F λz F=>Nb F (ZP zD 31) λt F=>aw F (Am t 0) 2 z λF=>Li F (Am t 1) λA=>Bc (A≠0) (Li F (Am s 1) λe=>Lr F 2 c λB=>Lr F 2 (Am t 0) λC=>ν 35 #[ZU B,ZU C] F λv F=>∃o,∃f,v=(Z2 #[ZU o,(vi f)])/\F.cell (Am s 1)=ZO (vi e)/\Ca 65 #[ZU o,(vi f)] F λD F=>F.cell (Am s 1)=ZO (vi e)/\Fn a λH u w=>aj prog H (u++([(ZU (#[(vi e),(vi b)]:Γ)),(ZU D)]).toArray++w) F λv F=>v=(Z2 #[])/\F.cell (Am s 1)=ZO (vi e)/\vz E G I a g p q (ZO d) r s c m h i j k l b R F) (vz E G I a g p q (ZO d) r s c m h i j k l b R F)) (FV E G a g p q x r s c m h i j k R F)
def zO (y E:Ω) (a:ξ) (b:Addr) (h i j k:Θ) (D:Nat) (A:Θ) (c:Sl) (d:Int) (g:Sl) (R:VR) (e:Int) (F:PH):Prop:=Bc (e<(g.len:Int)) (Ix g e λp=>Lr F 2 (ZW p (ZY e*2)) λq=>Nb F (ZP (#[ZV ZQ,vi 0]) 63) λl F=>aw F (Am l 0) 2 q λF=>∃f,A=ZO f/\Li F (ZW f 1) λr=>Bc (r=0) (qO y a b h i j k c d R F) (Lb F (Am l 0) λs=>Bb (s) (Li F (Am D 1) λt=>Li F (Am l 1) λu=>Lr F 2 f λw=>Fn a λB n o=>aj prog B (n++([(ZU (#[(vi t),(vi u)]:Γ)),(ZU w)]).toArray++o) F λv F=>v=(Z2 #[])/\qO y a b h i j k c d R F) (Ls F (ZW b 3) λx=>(∃(C:Nat->Ω) (z:Nat),C z 0 F/\∀z m F,C z m F-> zN y E (nx1 C z) a b h i j k D f l c d g e x R m F)))) (qO y a b h i j k c d R F)
def vA (o:Ω) (b:ξ) (c:Addr) (h i j k:Θ) (n:Nat) (d:Sl) (e:Int) (l:Θ) (R:VR) (F:PH):Prop:=Ls F (Am n 2) λf=>(∃(m:Nat->Ω) (g:Nat),m g 0 F/\∀g a F,m g a F-> zO o (nx1 m g) b c h i j k n l d e f R a F)
def zQ (x:Ω) (f:ξ) (k:Addr) (v w o p:Θ) (d:Sl) (R:VR) (a:Int) (F:PH):Prop:=Bc (a<(d.len:Int)) (Ix d a λq=>Lr F 13 (ZW q (ZY a*13)) λr=>Nb F (ZP zP 55) λu F=>aw F (Am u 0) 13 r λF=>∃b,v=ZO b/\Lq F b λg=>∃c,g=ZO c/\Ls F (ZW c 9) λh=>Ix h a λs=>Lr F 2 (ZW s (ZY a*2)) λl=>Ls F (Am u 2) λm=>∃e,w=ZO e/\∃i:Option Nat,F.cell e=ZO (.map i)/\((Ca 67 #[ZU l,ZS m,.map i] F λt F=>F.cell (ZW c 9)=ZO (ZS h)/\F.cell b=ZO (ZZ g)/\Nb F (ZP zD 31) λy F=>aw F (Am y 0) 2 t λF=>vA x f k (ZO b) (ZO e) o p u d a (ZO (Am y 0)) R F)/\(Nb F (ZP zD 31) λn F=>Ca 67 #[ZU l,ZS m,.map i] F λj F=>F.cell (ZW c 9)=ZO (ZS h)/\F.cell b=ZO (ZZ g)/\aw F (Am n 0) 2 j λF=>vA x f k (ZO b) (ZO e) o p u d a (ZO (Am n 0)) R F))) (R (Z2 #[]) F)
def Q1 (b:ξ) (e f g h i:Θ) (R:VR) (F:PH):Prop:=∃a,e=ZO a/\Ls F (ZW a 5) λc=>Lp 0 F λN d F=>zQ N b a f g h i c R d F
theorem Wj {a:ξ} {b:Θ} {c:Θ} {d:Θ} {e:Θ} {f:Θ} (h:Q1 a b c d e f R F):ν 74 #[a,ZZ b,ZZ c,ZZ d,ZZ e,ZZ f] F R:=Rx.Λ (.ZN (.ZN (.L [(17,.int .i64)] (.ZN (.ZN (.J ZQ [] (.ZN (.J ZQ [(2,.ptr),(3,.ptr),(9,.ptr)] .N (.ZN (.L [(36,.int .i64)] (.ZN (.ZN (.J ZQ [(5,.ptr),(9,.ptr)] (.ZN (.ZN (.ZN (.J ZQ [] (.ZN (.L [(56,.int .i64)] (.ZN (.ZN (.J ZQ [(4,.ptr)] .N .N))))) .N)))) .N))))))) .N)))))) h
def OG (b:Option Nat) (g:Γ) (R:VR) (F:PH):Prop:=Nb F (ZP g 115) λj F=>Nb F (ZP zD 31) λf F=>Lr F 2 (Am j 0) λh=>∃(c:Γ) (a:Bool),rdo prog (Instr.lookup 113 (.map b) (ZU h) ZT) F (Z2 #[ZU c,ZV a])/\Nb F (ZP zD 31) λi F=>aw F (Am i 0) 2 c λF=>Bb (a) (Lr F 2 (Am i 0) λd=>aw F (Am f 0) 2 d λF=>Rr 2 (Am f 0) R F) (Ca 27 #[ZV ZQ] F λe F=>aw F (Am f 0) 2 e λF=>Rr 2 (Am f 0) R F)
theorem Q2 {a:Option Nat} {b:Γ} (h:OG a b R F):ν 75 #[.map a,ZU b] F R:=Rx.Λ .N h
def px (e:Ω) (_:ξ) (_:Addr) (_ _:Θ) (_:Sl) (a:Int) (_:VR) (F:PH):Prop:=e (i64.wrap (a+1)) F
def BW (u:Ω) (c:ξ) (b:Addr) (q r:Θ) (d:Int) (s:Nat) (l:Sl) (R:VR) (F:PH):Prop:=Li F (Am s 1) λh=>Lq F b λe=>∃a,e=ZO a/\Ls F (ZW a 9) λf=>Ix f d λm=>Lr F 2 (ZW m (ZY d*2)) λn=>Ls F (Am s 2) λo=>∃g,r=ZO g/\∃i:Option Nat,F.cell g=ZO (.map i)/\Ca 67 #[ZU n,ZS o,.map i] F λp F=>F.cell (ZW a 9)=ZO (ZS f)/\F.cell b=ZO (ZZ e)/\F.cell (Am s 1)=ZO (vi h)/\Fn c λt j k=>aj prog t (j++([(vi h),(ZU p)]).toArray++k) F λv F=>v=(Z2 #[])/\F.cell (ZW a 9)=ZO (ZS f)/\F.cell b=ZO (ZZ e)/\px u c b q (ZO g) l d R F
def py (_ g:Ω) (_:ξ) (_:Addr) (_ _:Θ) (_:Int) (_:Nat) (_ _:Sl) (a:Int) (_:VR) (F:PH):Prop:=g (i64.wrap (a+1)) F
def vC (n p:Ω) (a:ξ) (c:Addr) (i h:Θ) (d:Int) (o:Nat) (e f:Sl) (R:VR) (b:Int) (F:PH):Prop:=Bc (b<(f.len:Int)) (Ix f b λj=>Lr F 2 (ZW j (ZY b*2)) λk=>Nb F (ZP (#[ZV ZQ,vi 0]) 63) λq F=>aw F (Am q 0) 2 k λF=>Lb F (Am q 0) λl=>Bb (l) (∃g,i=ZO g/\Lb F g λm=>Bb (m) (px n a c (ZO g) h e d R F) (py n p a c (ZO g) h d o e f b R F)) (py n p a c i h d o e f b R F)) (BW n a c i h d o e R F)
def vD (n:Ω) (d:ξ) (e:Addr) (j k:Θ) (b:Sl) (R:VR) (a:Int) (F:PH):Prop:=Bc (a<(b.len:Int)) (Ix b a λf=>Lr F 13 (ZW f (ZY a*13)) λg=>Nb F (ZP zP 55) λl F=>aw F (Am l 0) 13 g λF=>Ls F (Am l 2) λh=>(∃(m:Nat->Ω) (i:Nat),m i 0 F/\∀i c F,m i c F-> vC n (nx1 m i) d e j k a l b h R c F)) (R (Z2 #[]) F)
def Mi (c:ξ) (f g h:Θ) (R:VR) (F:PH):Prop:=∃a,f=ZO a/\Lq F a λi=>∃b,i=ZO b/\Ls F (ZW b 5) λd=>Lp 0 F λN e F=>vD N c a g h d R e F
theorem Q3 {a:ξ} {b:Θ} {c:Θ} {d:Θ} (h:Mi a b c d R F):ν 113 #[a,ZZ b,ZZ c,ZZ d] F R:=Rx.Λ (.ZN (.ZN (.L [(15,.int .i64)] (.ZN (.ZN (.J ZQ [(2,.ptr),(3,.ptr)] (.ZN (.J ZQ [] (.ZN (.L [(23,.int .i64)] (.ZN (.ZN (.J ZQ [(2,.ptr)] .N .N))))) .N)) .N)))))) h
def pz (d:Ω) (_:Int) (_ _ _:Θ) (_:Nat) (_:Sl) (a:Int) (_:VR) (F:PH):Prop:=d (i64.wrap (a+1)) F
def iz (t:Ω) (b:Int) (d:Addr) (j k:Θ) (u:Nat) (f:Int) (r:Nat) (g:Sl) (h:Int) (e:Θ) (R:VR) (F:PH):Prop:=Lr F 2 (Am r 0) λl=>∃a,e=ZO a/\Lr F 2 a λm=>Cbo 31 #[ZU l,ZU m] F λn F=>Bb ((!n)) (∃i:Option Nat,F.cell d=ZO (.map i)/\Lr F 2 a λo=>aH prog (Instr.mapUpdate 95 (.map i) (vi f) (ZU o)) F λ_ F=>∃c,k=ZO c/\Ls F c λp=>Nb F (ZP #[(vi f)] 3) λs F=>Ap 67 #[ZS p,ZS (Sb s 1)] F λq F=>sto F c (ZS q) λF=>pz t b (ZO d) j (ZO c) u g h R F) (pz t b (ZO d) j k u g h R F)
def vE (N:Ω) (c:Int) (T U t:Θ) (M:Nat) (g:Sl) (R:VR) (e:Int) (F:PH):Prop:=Bc (e<(g.len:Int)) (Ix g e λO=>Li F (ZW O (ZY e*1)) λh=>∃i,T=ZO i/\∃J:Option Nat,F.cell i=ZO (.map J)/\Ca 66 #[.map J,(vi h)] F λP F=>Nb F (ZP zD 31) λf F=>aw F (Am f 0) 2 P λF=>Lr F 2 (Am f 0) λd=>Lr F 2 (Am M 0) λK=>∃a,U=ZO a/\∃b:Option Nat,F.cell a=ZO (.map b)/\∃u,rdo prog (Instr.lookup 113 (.map b) (ZU (#[(vi c),(vi h)]:Γ)) ZQ) F (ZU u)/\((ν 35 #[ZU K,ZU u] F λv F=>∃w,∃j,v=(Z2 #[ZU w,(vi j)])/\F.cell a=ZO (.map b)/\F.row (Am f 0) d/\((Ca 65 #[ZU w,(vi j)] F λL F=>F.cell a=ZO (.map b)/\F.row (Am f 0) d/\((ν 28 #[ZU d,ZU L] F λv F=>∃x,∃k,v=(Z2 #[ZU x,(vi k)])/\F.cell a=ZO (.map b)/\((Ca 65 #[ZU x,(vi k)] F λQ F=>F.cell a=ZO (.map b)/\Nb F (ZP zD 31) λS F=>aw F (Am S 0) 2 Q λF=>iz N c i (ZO a) t M h f g e (ZO (Am S 0)) R F)/\(Nb F (ZP zD 31) λy F=>Ca 65 #[ZU x,(vi k)] F λC F=>F.cell a=ZO (.map b)/\aw F (Am y 0) 2 C λF=>iz N c i (ZO a) t M h f g e (ZO (Am y 0)) R F)))/\(Nb F (ZP zD 31) λz F=>ν 28 #[ZU d,ZU L] F λv F=>∃l,∃m,v=(Z2 #[ZU l,(vi m)])/\F.cell a=ZO (.map b)/\Ca 65 #[ZU l,(vi m)] F λD F=>F.cell a=ZO (.map b)/\aw F (Am z 0) 2 D λF=>iz N c i (ZO a) t M h f g e (ZO (Am z 0)) R F)))/\(Nb F (ZP zD 31) λA F=>Ca 65 #[ZU w,(vi j)] F λE F=>F.cell a=ZO (.map b)/\F.row (Am f 0) d/\ν 28 #[ZU d,ZU E] F λv F=>∃n,∃o,v=(Z2 #[ZU n,(vi o)])/\F.cell a=ZO (.map b)/\Ca 65 #[ZU n,(vi o)] F λG F=>F.cell a=ZO (.map b)/\aw F (Am A 0) 2 G λF=>iz N c i (ZO a) t M h f g e (ZO (Am A 0)) R F)))/\(Nb F (ZP zD 31) λB F=>ν 35 #[ZU K,ZU u] F λv F=>∃p,∃q,v=(Z2 #[ZU p,(vi q)])/\F.cell a=ZO (.map b)/\F.row (Am f 0) d/\Ca 65 #[ZU p,(vi q)] F λH F=>F.cell a=ZO (.map b)/\F.row (Am f 0) d/\ν 28 #[ZU d,ZU H] F λv F=>∃r,∃s,v=(Z2 #[ZU r,(vi s)])/\F.cell a=ZO (.map b)/\Ca 65 #[ZU r,(vi s)] F λI F=>F.cell a=ZO (.map b)/\aw F (Am B 0) 2 I λF=>iz N c i (ZO a) t M h f g e (ZO (Am B 0)) R F))) (R (Z2 #[]) F)
def Mj (a:Int) (f:Γ) (g h i j:Θ) (R:VR) (F:PH):Prop:=Nb F (ZP f 31) λk F=>∃b,g=ZO b/\∃c:Option Nat,F.cell b=ZO (.map c)/\∃d,rdo prog (Instr.lookup 164 (.map c) (vi a) ZQ) F (ZS d)/\Lp 0 F λN e F=>vE N a h i j k d R e F
theorem Q4 {a:Int} {b:Γ} {c:Θ} {d:Θ} {e:Θ} {f:Θ} (h:Mj a b c d e f R F):ν 121 #[(vi a),ZU b,ZZ c,ZZ d,ZZ e,ZZ f] F R:=Rx.Λ (.ZN (.ZN (.L [(16,.int .i64)] (.ZN (.ZN (.J ZQ [(3,.ptr),(5,.ptr)] (.ZN (.ZN (.J ZQ [(4,.ptr),(11,.ptr)] .N .N))) .N)))))) h
def Mk (g:Int) (p:Γ) (q r:Θ) (R:VR) (F:PH):Prop:=Nb F (ZP p 31) λw F=>Li F (Am w 1) λs=>Bc (s=0) (R (Z2 #[]) F) (∃b,q=ZO b/\∃c:Option Nat,F.cell b=ZO (.map c)/\Ca 66 #[.map c,(vi g)] F λh F=>Nb F (ZP zD 31) λt F=>aw F (Am t 0) 2 h λF=>Lr F 2 (Am t 0) λi=>Lr F 2 (Am w 0) λj=>ν 28 #[ZU i,ZU j] F λv F=>∃d,∃a,v=(Z2 #[ZU d,(vi a)])/\Ca 65 #[ZU d,(vi a)] F λk F=>Nb F (ZP zD 31) λu F=>aw F (Am u 0) 2 k λF=>Lr F 2 (Am t 0) λl=>Lr F 2 (Am u 0) λm=>Cbo 31 #[ZU l,ZU m] F λn F=>Bb ((!n)) (∃e:Option Nat,F.cell b=ZO (.map e)/\Lr F 2 (Am u 0) λo=>aH prog (Instr.mapUpdate 95 (.map e) (vi g) (ZU o)) F λ_ F=>∃f,r=ZO f/\sto F f (ZV ZT) λF=>R (Z2 #[]) F) (R (Z2 #[]) F))
theorem Q5 {a:Int} {b:Γ} {c:Θ} {d:Θ} (h:Mk a b c d R F):ν 124 #[(vi a),ZU b,ZZ c,ZZ d] F R:=Rx.Λ .N h
def Ml (q r:Γ) (s t:Θ) (R:VR) (F:PH):Prop:=Nb F (ZP q 115) λy F=>Nb F (ZP r 31) λz F=>Li F (Am z 1) λu=>Bc (u=0) (R (Z2 #[]) F) (∃b,s=ZO b/\∃c:Option Nat,F.cell b=ZO (.map c)/\Lr F 2 (Am y 0) λg=>Ca 75 #[.map c,ZU g] F λh F=>Nb F (ZP zD 31) λw F=>aw F (Am w 0) 2 h λF=>Lr F 2 (Am w 0) λi=>Lr F 2 (Am z 0) λj=>ν 28 #[ZU i,ZU j] F λv F=>∃d,∃a,v=(Z2 #[ZU d,(vi a)])/\Ca 65 #[ZU d,(vi a)] F λk F=>Nb F (ZP zD 31) λx F=>aw F (Am x 0) 2 k λF=>Lr F 2 (Am w 0) λl=>Lr F 2 (Am x 0) λm=>Cbo 31 #[ZU l,ZU m] F λn F=>Bb ((!n)) (∃e:Option Nat,F.cell b=ZO (.map e)/\Lr F 2 (Am y 0) λo=>Lr F 2 (Am x 0) λp=>aH prog (Instr.mapUpdate 113 (.map e) (ZU o) (ZU p)) F λ_ F=>∃f,t=ZO f/\sto F f (ZV ZT) λF=>R (Z2 #[]) F) (R (Z2 #[]) F))
theorem Q6 {a:Γ} {b:Γ} {c:Θ} {d:Θ} (h:Ml a b c d R F):ν 125 #[ZU a,ZU b,ZZ c,ZZ d] F R:=Rx.Λ .N h
section
variable {κ:Type} {enc:κ->ξ} {G G0 G1 F:PH} {As:List (Ψ)} {m:Nat} {S S':κ->Tr} {mp mp':κ->Option ξ}
def jp (G:PH) (S:κ->Tr) (mp:κ->Option ξ):Prop:=∀n,(mp n=ZR/\S n=ZL ZQ)\/∃w,mp n=ZO (ZU w)/\DV G w (dia (S n))
theorem jp.le (h:jp G0 S mp) (l:G0.le G):jp G S mp:=λn=>(h n).imp id λ⟨w,h1,h2⟩=>⟨w,h1,h2.le l⟩
theorem jp.empty (G:PH):jp G (λ_:κ=>ZL ZQ) (λ_=>ZR):=λ_=> .inl ⟨rfl,rfl⟩
variable [DecidableEq κ]
theorem jp.put (h:jp G S mp) {n:κ} {w:Γ} {t:Tr} (hd:DV G w (dia t)):jp G (cQ S n t) (λk=>if k=n then ZO (ZU w) else mp k):=λk=>by
 unfold cQ;dsimp only;by_cases e:k=n
 ·rw [Χ e,Χ e];exact .inr ⟨w,rfl,hd⟩
 ·rw [Υ e,Υ e];exact h k
def mS (enc:κ->ξ) (G:PH) (m:Nat) (S:κ->Tr):Ψ:=λH=>∃o mp,H m=ZO o/\eM enc mp o/\jp G S mp
theorem St.mS_at (h:St G F As) {i:Nat} (hi:As[i]? =ZO (mS enc G0 m S)):∃o mp,F m=ZO o/\eM enc mp o/\jp G0 S mp:=by obtain ⟨H,⟨o,mp,h1,h2,h3⟩,_,h4⟩:=h.get hi;exact ⟨o,mp,h4 _ _ h1,h2,h3⟩
theorem St.mS_set (h:St G F As) (i:Nat) (hi:As[i]? =ZO (mS enc G0 m S)) {o':Obj} (ho:eM enc mp' o') (hs:jp G1 S' mp'):St G (F.set m o') (As.set i (mS enc G1 m S')):=by
 obtain ⟨H,⟨o,mp,a1,_,_⟩,a2,a3,a4⟩:=h.set (A':=mS enc G1 m S') hi;refine a4 (H.set m o') _ ⟨o',mp',au _ _ _,ho,hs⟩ (λx hx=> ?_) (λx p hx=> ?_) (λx p hx hn=> ?_)
 ·by_cases e:x=m
  ·rw [e,a1];exact .inl (by simp)
  ·rw [aB _ _ e] at hx;exact .inl hx
 ·by_cases e:x=m
  ·rw [e,au] at hx ⊢;exact hx
  ·rw [aB _ _ e] at hx ⊢;exact a3 _ _ hx
 ·have e:x≠m:=λe=>by rw [e,a1] at hn;cases hn
  rw [aB _ _ e];exact hx
end
theorem xP:gn prog 95 aJ (.agg zD):=⟨_,_,underlying95,Is,Kj⟩
theorem FW:gn prog 113 bV (.agg zD):=⟨_,_,underlying113,Is,WO⟩
theorem bB {F:PH} {w:Γ} {d:Dia} (hd:DV F w d):ν 65 #[ZU w,vi 0] F λr F'=>r=ZU w/\F.le F':=by refine Wd ?_;unfold QV;refine fresh λb2 F1 l1 q2 _=> ?_;refine (St.start F1).new λb4 F2 h=>⟨λhc=>absurd rfl hc,λ_=>⟨w,hd.size,ac (h.le _ _ q2),?_⟩⟩;refine h.put0 (w':=w) hd.size rfl hd.st λF3 h=>⟨w,hd.size,ac (h.ptAt (i:=0) rfl),rfl,aa l1 h.le⟩
section
variable {G G0 F:PH} {As:List (Ψ)} {m:Nat} {k:Nat}
theorem fw {S:Int->Tr} (h:St G F (mS aJ G0 m S::As)) (l0:G0.le G) (n:Int):
  ν 66 #[.map (ZO m),vi n] F λr F'=>∃G' w,r=ZU w/\DV G' w (dia (S n))/\G.le G'/\St G' F' (mS aJ G0 m S::As):=by
 refine We ?_;unfold QW;refine h.new λb4 F1 h=> ?_;obtain ⟨o,mp,h1,h2,h3⟩:=h.mS_at (i:=1) rfl;have hlk:=bL (F:=F1) xP h1 h2 n ZT;rcases h3 n with ⟨e1,e2⟩|⟨w,e1,e2⟩
 ·rw [e1] at hlk;refine ⟨_,_,hlk,?_⟩;refine h.new λb5 F2 h=> ?_;refine h.put0 (w':=zD) rfl rfl (by simp [am]) λF3 h=>⟨λhc=>(by cases hc),λ_=> ?_⟩;refine (h.call (fk ZQ)).mono ?_;rintro _ F4 ⟨G',⟨w,rfl,hw,l1⟩,h⟩;refine ⟨w,rfl,?_⟩;refine h.put1 (w':=w) hw.size rfl hw.st λF5 h=>⟨w,hw.size,ac (h.ptAt (i:=1) rfl),?_⟩;exact ⟨G',w,rfl,by rw [e2];exact hw,l1,h.tail.tail⟩
 ·rw [e1] at hlk;refine ⟨_,_,hlk,?_⟩;have hw:=e2.le l0;refine h.new λb5 F2 h=> ?_;refine h.put0 (w':=w) hw.size rfl hw.st λF3 h=>⟨λ_=>⟨w,hw.size,ac (h.ptAt (i:=0) rfl),?_⟩,λhc=>(by cases hc)⟩;refine h.put1 (w':=w) hw.size rfl hw.st λF5 h=>⟨w,hw.size,ac (h.ptAt (i:=1) rfl),?_⟩;exact ⟨G,w,rfl,hw,al _,h.tail.tail⟩
theorem qP {S:Int×Int->Tr} (h:St G F (mS bV G0 m S::As)) (l0:G0.le G) (n:Int×Int):
  ν 75 #[.map (ZO m),ZU (wG n)] F λr F'=>∃G' w,r=ZU w/\DV G' w (dia (S n))/\G.le G'/\St G' F' (mS bV G0 m S::As):=by
 refine Q2 ?_;unfold OG;refine h.new λb3 Fa h=> ?_;refine h.new λb4 F1 h=> ?_;refine ⟨_,rfl,ac (h.ptAt (i:=1) rfl),?_⟩;obtain ⟨o,mp,h1,h2,h3⟩:=h.mS_at (i:=2) rfl;have hlk:=bL (F:=F1) FW h1 h2 n ZT;rcases h3 n with ⟨e1,e2⟩|⟨w,e1,e2⟩
 ·rw [e1] at hlk;refine ⟨_,_,hlk,?_⟩;refine h.new λb5 F2 h=> ?_;refine h.put0 (w':=zD) rfl rfl (by simp [am]) λF3 h=>⟨λhc=>(by cases hc),λ_=> ?_⟩;refine (h.call (fk ZQ)).mono ?_;rintro _ F4 ⟨G',⟨w,rfl,hw,l1⟩,h⟩;refine ⟨w,rfl,?_⟩;refine h.put1 (w':=w) hw.size rfl hw.st λF5 h=>⟨w,hw.size,ac (h.ptAt (i:=1) rfl),?_⟩;exact ⟨G',w,rfl,by rw [e2];exact hw,l1,h.tail.tail.tail⟩
 ·rw [e1] at hlk;refine ⟨_,_,hlk,?_⟩;have hw:=e2.le l0;refine h.new λb5 F2 h=> ?_;refine h.put0 (w':=w) hw.size rfl hw.st λF3 h=>⟨λ_=>⟨w,hw.size,ac (h.ptAt (i:=0) rfl),?_⟩,λhc=>(by cases hc)⟩;refine h.put1 (w':=w) hw.size rfl hw.st λF5 h=>⟨w,hw.size,ac (h.ptAt (i:=1) rfl),?_⟩;exact ⟨G,w,rfl,hw,al _,h.tail.tail.tail⟩
theorem vF {a b:Tr} {u w:Γ} (hk:k<=6) (ha:Sx k a) (hb:Sx k b) (hu:DV F u (dia a)) (hw:DV F w (dia b)):
  ν 28 #[ZU u,ZU w] F λr F'=>∃x,r=Z2 #[ZU x,vi 0]/\DV F' x (dia (ap2 oOr a b))/\F.le F':=by
 refine (Kv hu hw).mono ?_;rintro r F' ⟨⟨x,rfl,hx⟩,l⟩;rw [Hc (ha.small hk) (hb.small hk) ((ha.ap2 (o:=oOr) hb).small hk) (bq ha.1 hb.1).2] at hx ⊢;exact ⟨x,rfl,hx,l⟩
theorem iA {a b:Tr} {u w:Γ} (hk:k<=6) (ha:Sx k a) (hb:Sx k b) (hu:DV F u (dia a)) (hw:DV F w (dia b)):
  ν 35 #[ZU u,ZU w] F λr F'=>∃x,r=Z2 #[ZU x,vi 0]/\DV F' x (dia (ap2 aY a b))/\F.le F':=by
 refine (GX hu hw).mono ?_;rintro r F' ⟨⟨x,rfl,hx⟩,l⟩;rw [Hc (ha.small hk) (hb.small hk) ((ha.ap2 (o:=aY) hb).small hk) (bq ha.1 hb.1).2] at hx ⊢;exact ⟨x,rfl,hx,l⟩
theorem dW {t:Tr} (h:t.ok):(dia t).2=0↔t=ZL ZQ:=by
 refine ⟨λhe=> ?_,λhe=>by rw [he];rfl⟩;have h0:num (bo t) t=0:=by have:((num (bo t) t:Nat):Int)=0:=he;omega
 have hl:=qD (S:=bo t) (t:=t) (by omega);cases t with
 |ZM _ _ _=>cases hl
 |ZL b=>
  cases b with
  |false=>rfl
  |true=>cases h0
theorem vG {a:Tr} (ha:a.ok):ap2 oOr a (ZL ZQ)=a:=dI (bq ha (b:=ZL ZQ) trivial).1 ha λc=>by rw [(bq ha (b:=ZL ZQ) trivial).2];exact ZE _
theorem dC {κ:Type} [DecidableEq κ] {S:κ->Tr} (hS:Sxs k S) (n:κ):bx S n (ZL ZQ)=S:=by unfold bx;rw [vG (hS n).1,ny]
theorem jO {κ:Type} [DecidableEq κ] {S:κ->Tr} {n:κ} {d:Tr}:bx S n d=S↔ap2 oOr (S n) d=S n:=by
 constructor
 ·intro h;have:=congrFun h n;unfold bx cQ at this;rwa [Χ rfl] at this
 ·intro h;unfold bx;rw [h,ny]
theorem ua {S:Int->Tr} {b2 b4:Nat} {ch:Bool} {w:Γ} {d:Tr} (h:St G F (mS aJ G0 m S::pt b4 (ZP #[ZV ch] 4)::As)) (l0:G0.le G) (hk:k<=6) (hS:Sxs k S) (hx:Sx k d) (hd:DV G w (dia d))
  (h2:G.cell ⟨b2,0,ZR⟩=ZO (.map (ZO m))) (n:Int):
  ν 124 #[vi n,ZU w,ZZ (ZO ⟨b2,0,ZR⟩),ZZ (ZO ⟨b4,0,ZR⟩)] F λr F'=>∃G' ch',r=Z2 #[]/\(ch'=ZT↔ch=ZT\/bx S n d≠S)/\G.le G'/\
   St G' F' (mS aJ G' m (bx S n d)::pt b4 (ZP #[ZV ch'] 4)::As):=by
 refine Q5 ?_;unfold Mk;have up:∀{G1 G2 F':PH} {S':Int->Tr} {As':List (Ψ)},St G2 F' (mS aJ G1 m S'::As')->G1.le G2->St G2 F' (mS aJ G2 m S'::As'):=λ{G1 G2 F' S' As'} h l=>h.imp 0 rfl λH _ ⟨o,mp,a1,a2,a3⟩=>⟨o,mp,a1,a2,a3.le l⟩;obtain ⟨s,rfl,_⟩:=id hd;refine h.newG λb5 G1 F1 l1 q5 _ h=>⟨_,ld (h.le _ _ q5) rfl,λh0=> ?_,λh0=> ?_⟩
 ·have e:=(dW hx.1).1 h0;refine ⟨G1,ch,rfl,?_,l1,?_⟩
  ·rw [e,dC hS];simp
  ·rw [e,dC hS];exact up h (aa l0 l1)
 ·refine ⟨_,rfl,_,aK (aa l1 h.le) h2,?_⟩;refine (fw h (aa l0 l1) n).mono ?_;rintro _ F2 ⟨G2,u,rfl,hu,l2,h⟩;refine ⟨u,rfl,?_⟩;refine h.var hu.st (λb6 G3 F3 l3 q6 h=> ?_) rfl hu.size;have l13:=aa l2 l3;refine ⟨u,hu.size,ac (h.le _ _ q6),_,rfl,ac (h.le _ _ (l13 _ _ q5)),?_⟩;refine h.run (P:=λr G'=>∃x,r=Z2 #[ZU x,vi 0]/\DV G' x (dia (ap2 oOr (S n) d))) ((vF hk (hS n) hx (hu.le l3) (hd.le (aa l1 l13))).mono λr F' ⟨x,a,b,c⟩=>⟨⟨x,a,b⟩,c⟩) λ_ G4 F4 hr l4 h=> ?_;obtain ⟨x,rfl,hxx⟩:=hr;refine ⟨_,_,rfl,?_⟩;refine h.runv (bB hxx) λG5 F5 l5 h=>⟨_,rfl,?_⟩;refine h.var hxx.st (λb7 G6 F6 l6 q7 h=> ?_) rfl hxx.size;have l36:=aa l4 (aa l5 l6);refine ⟨u,hu.size,ac (h.le _ _ (l36 _ _ q6)),x,hxx.size,ac (h.le _ _ q7),?_⟩;refine h.runv (jY (hu.le (aa l3 l36)) (hxx.le (aa l5 l6)) (p7 ((hS n).small hk))) λG7 F7 l7 h=>⟨_,rfl,?_⟩;have l17:=aa l13 (aa l36 l7);have kk:=(hS n).ap2 (o:=oOr) hx;refine ⟨λhne=> ?_,λhe=> ?_⟩
  ·have hne:ap2 oOr (S n) d≠S n:=λe=>by rw [e,ζ rfl] at hne;cases hne
   refine ⟨_,aK (aa (aa l1 l17) h.le) h2,x,hxx.size,ac (h.le _ _ (l7 _ _ q7)),?_⟩;obtain ⟨o,mp,m1,m2,m3⟩:=h.mS_at (i:=0) rfl;refine aX xP m1 m2 n (ZU x) λo' ho'=> ?_;have hxx7:=hxx.le (aa l5 (aa l6 l7));have h:=h.mS_set 0 rfl (G1:=G7) (S':=bx S n d) ho' ((m3.le (aa (aa l0 l1) l17)).put hxx7);refine ⟨_,rfl,h.set1 (w':= #[ZV ZT]) (Z8 rfl) rfl λF8 h=> ?_⟩;exact ⟨G7,ZT,rfl,⟨λ_=> .inr λe=>hne (jO.1 e),λ_=>rfl⟩,aa l1 l17,h⟩
  ·have e:ap2 oOr (S n) d=S n:=by
    have:decide (dia (S n)=dia (ap2 oOr (S n) d))=ZT:=by simpa using he
    exact (mY (hS n).1 kk.1 (ε this)).symm
   have e2:=jO.2 e;refine ⟨G7,ch,rfl,?_,aa l1 l17,?_⟩
   ·rw [e2];simp
   ·rw [e2];exact up h (aa (aa l0 l1) l17)
end
theorem ub (S:Int->Tr) (s:Sy):∀(r:List Sy) (d:Tr),dL S d (r++[s])=if s.t=ZT then dL S d r else ap2 aY (dL S d r) (S s.i)
 |[],d=>rfl
 |x::r,d=>by rw [YA];unfold dL;exact ub S s r _
theorem gN {a:Tr} (ha:a.ok):ap2 aY (ZL ZQ) a=ZL ZQ:=dI (bq (a:=ZL ZQ) trivial ha).1 trivial λc=>by rw [(bq (a:=ZL ZQ) trivial ha).2];rfl
theorem dD {α:Type} {r:List α} {i:Nat} {x:α} (h:r[i]? =ZO x):r.take (i+1)=r.take i++[x]:=by rw [Yy,h];rfl
section
variable {G G0 F:PH} {As:List (Ψ)} {m:Nat} {k:Nat}
theorem gU {S:Int->Tr} (h:St G F (mS aJ G0 m S::As)) (l0:G0.le G) (hk:k<=6) (hS:Sxs k S) {d:Tr} {w:Γ} (hx:Sx k d) (hd:DV G w (dia d)) {sl:Sl} {r:List Sy} (hr:RL G sl r) (hl:r.length<=1000000):
  ν 67 #[ZU w,sl.v,.map (ZO m)] F λres F'=>∃G' u,res=ZU u/\DV G' u (dia (dL S d r))/\G.le G'/\St G' F' (mS aJ G0 m S::As):=by
 have elen:=hr.len;refine Wf ?_;unfold QX;refine h.new λb3 F1 h=>h.new λb6 F2 h=> ?_;refine bi (zJ · (ZO m) b3 b6 sl _) r.length (λi F'=>∃(G':PH) (u:Γ),G.le G'/\DV G' u (dia (dL S d (r.take i)))/\St G' F' (pt b6 (ZP zD 31)::pt b3 (ZP u 31)::mS aJ G0 m S::As)) ⟨G,w,al _,by rw [YJ];exact hd,h⟩ ?_;rintro i F3 N hi ⟨G1,u,l1,hu,h⟩ next;unfold zJ;obtain ⟨fx,_⟩:=bC hS (r.take i) hx;refine ⟨λhlt=> ?_,λhge=> ?_⟩
 ·have hlt:i<r.length:=by omega
  refine ixc ((hr.le l1).le h.le) (by decide) (by omega) (by omega) λa c s hs hrow hc=>⟨c,Mem.len hc,hrow,?_⟩;rw [N5] at hs;obtain rfl:c=s.arr:=hc;have et:=dD hs;have hsn:=ub S s (r.take i) d;refine h.var (by simp [am]) (λb8 G2 F4 l2 q8 h=>⟨_,ld (h.le _ _ q8) rfl,?_⟩) rfl rfl;have fin:∀{G' F':PH} {u':Γ},G1.le G'->DV G' u' (dia (dL S d (r.take (i+1))))->St G' F' (pt b6 (ZP zD 31)::pt b3 (ZP u' 31)::mS aJ G0 m S::As)->
    vx N (ZO m) b3 b6 sl (i:Int) (λres F'=>∃G' u,res=ZU u/\DV G' u (dia (dL S d r))/\G.le G'/\St G' F' (mS aJ G0 m S::As)) F':=λ{G' F' u'} l hu' h=>by
   unfold vx;rw [aC hlt];exact next _ hlt ⟨G',u',aa l1 l,hu',h⟩
  refine ⟨λht=> ?_,λht=> ?_⟩
  ·have ht:s.t=ZQ:=by simpa using ht
   rw [ht,Υ Y8] at hsn;obtain ⟨su,rfl,_⟩:=id hu;refine ⟨_,h.ld1 rfl,?_⟩;unfold vy;refine ⟨λhne=>⟨_,rfl,ac (h.ptAt (i:=1) rfl),_,ld (h.le _ _ q8) rfl,?_⟩,λhe=> ?_⟩
   ·refine (fw h.front2 (aa l0 (aa l1 l2)) s.i).mono ?_;rintro _ F5 ⟨G3,x,rfl,hxx,l3,h⟩;have h:=h.back2;have hu3:=hu.le (aa l2 l3);refine ⟨x,rfl,ac (h.ptAt (i:=1) rfl),?_⟩;refine h.run (P:=λr' G'=>∃y,r'=Z2 #[ZU y,vi 0]/\DV G' y (dia (ap2 aY (dL S d (r.take i)) (S s.i)))) ((iA hk fx (hS s.i) hu3 hxx).mono λr F' ⟨x,a,b,c⟩=>⟨⟨x,a,b⟩,c⟩) λ_ G4 F6 hr4 l4 h=> ?_;obtain ⟨y,rfl,hy⟩:=hr4;refine ⟨_,_,rfl,?_⟩;refine h.runv (bB hy) λG5 F7 l5 h=>⟨_,rfl,?_⟩;refine h.put1 (w':=y) hy.size rfl hy.st λF8 h=> ?_;refine fin (aa l2 (aa l3 (aa l4 l5))) ?_ h;rw [et,hsn];exact hy.le l5
   ·have e:dL S d (r.take i)=ZL ZQ:=(dW fx.1).1 (by simpa using he);refine fin l2 ?_ h;rw [et,hsn,e,gN (hS _).1,<- e];exact hu.le l2
  ·have ht:s.t=ZT:=by simpa using ht
   rw [ht,Χ rfl] at hsn;unfold vy;refine ⟨λhc=>(by cases hc),λ_=>fin l2 ?_ h⟩;rw [et,hsn];exact hu.le l2
 ·have e:i=r.length:=by omega
  subst e;rw [XZ] at hu;unfold FP;refine ⟨u,hu.size,ac (h.ptAt (i:=1) rfl),?_⟩;refine h.put0 (w':=u) hu.size rfl hu.st λF5 h=>⟨u,hu.size,ac (h.ptAt (i:=0) rfl),?_⟩;exact ⟨G1,u,rfl,hu,l1,h.tail.tail⟩
end
set_option maxRecDepth 100000
theorem JT (p:Addr) (w:World):CallsD prog 112 #[ZZ (ZO p)] .returning w λe u' w'=>(∃v,e=.returned v)/\u'=.returning/\w'=w:=by refine callsD_of_wpS func112 rfl λc₀ cs hu=> ?_;apply wpS_seq;apply wpS_region;simp [wpOpsS,go_sem,recoverD,hu,ntmps112,Exit.thenS];apply wpS_seq;apply wpS_region;simp [wpOpsS,go_sem,Exit.thenS];refine wpS_cond (t:=ZQ) (by simp [Act.eval,Array.replicate]) ?_;simp only [Yn,if_false];refine wpS_of_wp (wp_skip ?_);cases c₀;simp_all [bodyPostS,results,results112]
theorem JU (p:Addr):AQ prog ⟨.fn (.func 112) #[ZZ (ZO p)],#[]++[].toArray⟩:=
 ⟨_,_,112,#[ZZ (ZO p)],rfl,λw=>⟨by simp [go_sem],JT p w⟩⟩
structure OkK (g:Gr) (k:Nat):Prop where
 ok:OkG g
 len:g.ZJ.length=k
 le:k<=6
theorem zR {d:Dia} {n:Nat} (h:iI d n):Sx n (tre d)/\d=dia (tre d):=by obtain ⟨t,h1,h2,h3,_,h5⟩:=ED h;rw [h3];exact ⟨⟨h1,h5⟩,h2⟩
theorem qQ {n:Nat}:∀(l:List Tk) (done:List ο),dn n done l->∀t∈l,∃d,Aq n d t
 |[],_,_,_,h=>by cases h
 |t::l,done,⟨h1,h2⟩,x,hx=>by
  rcases XP.1 hx with rfl|hx
  ·exact ⟨_,h1⟩
  ·exact qQ l _ h2 x hx
theorem qR {g:Gr}:∀(l:List Pr) (done:List ο),cP g done l=0->∀p∈l,fa g p/\∃d,An g d p
 |[],_,_,_,h=>by cases h
 |p::l,done,h,x,hx=>by
  unfold cP at h;by_cases h1:fa g p
  ·rw [Υ (μ h1)] at h;by_cases h2:An g done p
   ·rw [Υ (μ h2)] at h;rcases XP.1 hx with rfl|hx
    ·exact ⟨h1,_,h2⟩
    ·exact qR l _ h x hx
   ·rw [Χ h2] at h;cases h
  ·rw [Χ h1] at h;cases h
section
variable {g:Gr} {k:Nat}
theorem OkK.fam (h:OkK g k):Sx k (tre g.fam)/\g.fam=dia (tre g.fam):=by have:=zR h.ok.fam.2.2.1;rwa [h.len] at this
theorem OkK.tok (h:OkK g k) {t:Tk} (ht:t∈g.ZI):Sx k (tre t.cond)/\t.cond=dia (tre t.cond):=by obtain ⟨d,_,_,_,_,h5,_⟩:=qQ _ _ h.ok.ZI t ht;have:=zR h5;rwa [h.len] at this
theorem OkK.prod (h:OkK g k) {x:Pr} (hx:x∈g.ZG):Sx k (tre x.cond)/\x.cond=dia (tre x.cond)/\fa g x:=by obtain ⟨h1,d,_,_,h3,_⟩:=qR _ _ h.ok.ZG x hx;have:=zR h3;rw [h.len] at this;exact ⟨this.1,this.2,h1⟩
def ku (g:Gr) (i:Int):Tr:=match g.ZI[i.toNat]? with
 |some t=>tre t.cond
 |none=>ZL ZQ
theorem OkK.tkd (h:OkK g k) (i:Int):Sx k (ku g i):=by
 unfold ku;split
 ·rename_i t ht;exact (h.tok (XQ ht)).1
 ·exact Sx.ZL k ZQ
def jq (g:Gr):Tr->List Sy->Tr
 |d,[]=>d
 |d,s::r=>jq g (if s.t=ZT then ap2 aY d (ku g s.i) else d) r
theorem nA (s:Sy):∀(r:List Sy) (d:Tr),jq g d (r++[s])=if s.t=ZT then ap2 aY (jq g d r) (ku g s.i) else jq g d r
 |[],d=>rfl
 |x::r,d=>by rw [YA];unfold jq;exact nA s r _
theorem eW (h:OkK g k):∀(r:List Sy) {d:Tr},Sx k d->Sx k (jq g d r)/\∀c,(jq g d r).ev c=(d.ev c && r.all λs=> !s.t || (ku g s.i).ev c)
 |[],d,hd=>⟨hd,λc=>by simp [jq]⟩
 |s::r,d,hd=>by
  unfold jq;by_cases hs:s.t=ZT
  ·rw [Χ hs];obtain ⟨h1,h2⟩:=eW h r (hd.ap2 (o:=aY) (h.tkd s.i));refine ⟨h1,λc=> ?_⟩;rw [h2,Zx,(bq hd.1 (h.tkd s.i).1).2,hs,Bool.and_assoc];rfl
  ·rw [Υ hs];obtain ⟨h1,h2⟩:=eW h r hd;exact ⟨h1,λc=>by rw [h2,Zx,YK.2 hs];simp⟩
def aF (g:Gr) (i:Nat):Tr:=match g.ZG[i]? with
 |some x=>jq g (ap2 aY (tre g.fam) (tre x.cond)) x.right
 |none=>ZL ZQ
theorem OkK.prs (h:OkK g k) (i:Nat):Sx k (aF g i):=by
 unfold aF;split
 ·rename_i x hx;exact (eW h _ (h.fam.1.ap2 (o:=aY) (h.prod (XQ hx)).1)).1
 ·exact Sx.ZL k ZQ
theorem OkK.prs_ev (h:OkK g k) {i:Nat} {x:Pr} (hx:g.ZG[i]? =ZO x) (c:Cf):(aF g i).ev c=((tre g.fam).ev c && (tre x.cond).ev c && x.right.all λs=> !s.t || (ku g s.i).ev c):=by unfold aF;rw [hx];have hp:=(h.prod (XQ hx)).1;dsimp only;rw [(eW h _ (h.fam.1.ap2 (o:=aY) hp)).2,(bq h.fam.1.1 hp.1).2]
end
instance:Mem Dia where
 n:=2
 rep F d c:=DV F c d
 len h:=h.size
 le hl h:=h.le hl
 st h:=h.st
theorem Q7:∃b z,SlT 39 31 2 b z:=⟨_,_,underlying39,PX,Is,rfl,by decide,by decide⟩
abbrev anA (g:Gr) (c n t s p l f q:Sl):Γ:= #[c.v,n.v,vi g.fam.2,t.v,s.v,p.v,vi g.start,l.v,f.v,q.v]
def pc (g:Gr) (n:Nat):List Dia:=(List.range n).map λi=>dia (aF g i)
theorem D0 (g:Gr) (n:Nat):pc g (n+1)=pc g n++[dia (aF g n)]:=by unfold pc;rw [Zr,Yd];rfl
theorem jr (g:Gr) (n:Nat):(pc g n).length=n:=by unfold pc;rw [XW,Yq]
structure AnV (F:PH) (b:Nat) (g:Gr):Prop where
 ex:∃c n t s p l f q,F b=ZO (ZP (anA g c n t s p l f q) 107)/\GS F g c n t s p l f/\RL F q (pc g g.ZG.length)
theorem AnV.le {F G:PH} {b:Nat} {g:Gr} (h:AnV F b g) (l:F.le G):AnV G b g:=by obtain ⟨c,n,t,s,p,lv,f,q,h1,h2,h3⟩:=h;exact ⟨c,n,t,s,p,lv,f,q,l _ _ h1,h2.le l,h3.le l⟩
theorem FX (x:Addr) (i j:Nat):ZW (ZW x i) j=ZW x (i+j):=by obtain ⟨a,o,p⟩:=x;by_cases hi:i=0<;>by_cases hj:j=0<;>simp [ZW,hi,hj,Nat.add_assoc]
section
variable {G F:PH} {As:List (Ψ)} {g:Gr} {k:Nat}
theorem Q8 (hk:OkK g k) {N1:Ω} {rv:ξ} {b2 b4 b20 b9 i:Nat} {p r:Sl} {R:VR} {c n t s p' l f:Sl} {x:Pr} (hx:g.ZG[i]? =ZO x) (q2:G b2=ZO (ZP (g.arr c n t s p' l f) 37)) (ht:RL G t g.ZI) (hr:RL G r x.right) (hl:x.right.length<=1000000)
  {w:Γ} {d:Tr} (hd:Sx k d) (hw:DV G w (dia d)) (h:St G F (pt b9 (ZP w 31)::As))
  (fin:∀G' F' w',G.le G'->DV G' w' (dia (jq g d x.right))->St G' F' (pt b9 (ZP w' 31)::As)->zy N1 rv b2 b4 b20 b9 p (i:Int) R F'):
  ∃(I2:Nat->Ω) (m2:Nat),I2 m2 (0:Int) F/\∀m2 v_39 F,I2 m2 v_39 F->vm N1 (λy2_0 F=>∃m',m'<m2/\I2 m' y2_0 F) rv b2 b4 b20 b9 p (i:Int) r R v_39 F:=by
 have elen:=hr.len;have hsy:=(hk.prod (XQ hx)).2.2.2;refine bi (vm N1 · rv b2 b4 b20 b9 p (i:Int) r R) x.right.length (λj F'=>∃(G':PH) (u:Γ),G.le G'/\DV G' u (dia (jq g d (x.right.take j)))/\St G' F' (pt b9 (ZP u 31)::As)) ⟨G,w,al _,by rw [YJ];exact hw,h⟩ ?_;rintro j F3 N hj ⟨G1,u,l1,hu,h⟩ next;obtain ⟨fx,_⟩:=eW hk (x.right.take j) hd;unfold vm;refine ⟨λhlt=> ?_,λhge=> ?_⟩
 ·have hlt:j<x.right.length:=by omega
  refine ixc ((hr.le l1).le h.le) (by decide) (by omega) (by omega) λa cc sy hs hrow hc=>⟨cc,Mem.len hc,hrow,?_⟩;rw [N5] at hs;obtain rfl:cc=sy.arr:=hc;have et:=dD hs;have hsn:=nA (g:=g) sy (x.right.take j) d;obtain ⟨s0,_,s2⟩:=hsy sy (XQ hs);refine h.var (by simp [am]) (λb11 G2 F4 l2 q11 h=>⟨_,ld (h.le _ _ q11) rfl,?_⟩) rfl rfl;have fin2:∀{G' F':PH} {u':Γ},G1.le G'->DV G' u' (dia (jq g d (x.right.take (j+1))))->St G' F' (pt b9 (ZP u' 31)::As)->
    vl N1 N rv b2 b4 b20 b9 p (i:Int) r (j:Int) R F':=λ{G' F' u'} l hu' h=>by
   unfold vl;rw [aC hlt];exact next _ hlt ⟨G',u',aa l1 l,hu',h⟩
  refine ⟨λhst=> ?_,λhst=> ?_⟩
  ·have hst:sy.t=ZT:=hst;rw [Χ hst] at hsn;obtain ⟨tk,htk,_⟩:=s2 hst;have ed:ku g sy.i=tre tk.cond:=by unfold ku;rw [htk]
   obtain ⟨tx,td⟩:=hk.tok (XQ htk);have ht2:=ht.le (aa l1 l2);have etl:=ht2.len;have hti:sy.i.toNat<g.ZI.length:=(XN.1 htk).1;refine ⟨u,hu.size,ac (h.ptAt (i:=0) rfl),_,ld (h.le _ _ (l2 _ _ (l1 _ _ q2))) rfl,_,ld (h.le _ _ q11) rfl,?_⟩;refine h.ix ht2 (by decide) s0 (by omega) λa2 c2 y hy hrow2 hc2=> ?_;rw [htk] at hy;obtain rfl:=Yh hy;obtain ⟨pp,nn,rfl,_,hn2⟩:=hc2;have hdv:DV G2 #[nn.v,vi tk.cond.2] (dia (ku g sy.i)):=by rw [ed,<- td];exact DV.mk hn2
   refine ⟨#[nn.v,vi tk.cond.2],rfl,λq hq=> ?_,?_⟩
   ·have hq2:q<2:=hq;have:=hrow2 (5+q) (by show 5+q<7;omega);rw [FX];refine this.trans ?_;rcases (show q=0\/q=1 by omega) with rfl|rfl<;>rfl
   ·refine h.run (P:=λr' G'=>∃y,r'=Z2 #[ZU y,vi 0]/\DV G' y (dia (ap2 aY (jq g d (x.right.take j)) (ku g sy.i)))) ((iA hk.le fx (hk.tkd sy.i) (hu.le l2) hdv).mono λr F' ⟨x,a,b,c⟩=>⟨⟨x,a,b⟩,c⟩) λ_ G4 F6 hr4 l4 h=> ?_;obtain ⟨y,rfl,hy⟩:=hr4;refine ⟨_,_,rfl,ld (h.le _ _ (l4 _ _ q11)) rfl,ld (h.le _ _ (l4 _ _ (l2 _ _ (l1 _ _ q2)))) rfl,?_⟩;refine h.runv (bB hy) λG5 F7 l5 h=>⟨_,rfl,?_⟩;refine ⟨ld (h.le _ _ (l5 _ _ (l4 _ _ q11))) rfl,ld (h.le _ _ (l5 _ _ (l4 _ _ (l2 _ _ (l1 _ _ q2))))) rfl,?_⟩;refine h.put0 (w':=y) hy.size hu.size hy.st λF8 h=> ?_;refine fin2 (aa l2 (aa l4 l5)) ?_ h;rw [et,hsn];exact hy.le l5
  ·have hst:sy.t≠ZT:=λe=>by rw [show sy.t=ZT from e] at hst;cases hst
   rw [Υ hst] at hsn;refine fin2 l2 ?_ h;rw [et,hsn];exact hu.le l2
 ·have e:j=x.right.length:=by omega
  subst e;rw [XZ] at hu;exact fin G1 _ u l1 hu h
end
theorem xQ {x y z:ξ}:(#[]++ #[x]++ #[y,z]:Γ)= #[x,y,z]:=by simp
section
variable {G F:PH} {As:List (Ψ)} {Bs:PH->List (Ψ)} {g:Gr} {k:Nat}
theorem St.rot {A:Ψ} (h:St G F (A::As)):St G F (As++[A]):=by
 refine h.pick (λi=>if i=As.length then 0 else i+1) (λi j _ _ e=> ?_) (λi hi=> ?_)
 ·split at e<;>split at e<;>omega
 ·rw [XT,X3] at hi;split
  ·rename_i e;rw [e,X6 (XS _),Nat.sub_self];rfl
  ·rw [X0 (by omega)];rfl
theorem St.unrot {A:Ψ} (h:St G F (As++[A])):St G F (A::As):=by
 refine h.pick (λi=>if i=0 then As.length else i - 1) (λi j hi hj e=> ?_) (λi hi=> ?_)
 ·rw [X4] at hi hj;split at e<;>split at e<;>omega
 ·rw [X4] at hi;split
  ·rename_i e;rw [e,X6 (XS _),Nat.sub_self];rfl
  ·rename_i e;obtain ⟨j,rfl⟩:∃j,i=j+1:=⟨i - 1,by omega⟩;rw [Nat.add_sub_cancel,X0 (by omega)];rfl
theorem eJ {v:Γ} (hT:Tab G) (hg:GV G v g) (hz:Sz g) (hk:OkK g k) (hl:∀x∈g.ZG,x.right.length<=1000000) (hp:g.ZG.length<=1000000) (h:St G F As) {kr:Nat} {fst cap:Γ} (cb:aE prog kr=ZT)
  (run:∀G' b F',G.le G'->AnV G' b g->St G' F' As->aj prog kr (fst++ #[ZZ (ZO ⟨b,0,ZR⟩)]++cap) F' λr F''=>∃G'',r=Z2 #[]/\G'.le G''/\St G'' F'' (Bs G'')):
  ν 51 #[ZU v,.func (.func kr) fst cap] F λr F'=>r=vi 0/\∃G',G.le G'/\St G' F' (Bs G'):=by
 obtain ⟨_,_,T⟩:=Q7;have hc:=pJ.2 hk.ok;refine V3 ?_;unfold QJ;refine h.newG λb2 G1 F1 l1 q2 _ h=>h.new λb4 F2 h=>⟨v,hg.size,ac (h.le _ _ q2),?_⟩;refine h.run (yn (hT.le l1) (hg.le l1) hz) λ_ G3 F3 hr l3 h=> ?_;rw [hr,hc];refine ⟨_,rfl,λhn=>absurd rfl hn,λ_=>⟨JU _,v,hg.size,ac (h.le _ _ (l3 _ _ q2)),hg.size,?_⟩⟩;have l13:=aa l1 l3;obtain ⟨c,n,t,s,p,lv,f,rfl,hs⟩:=hg.le l13;have q2:=l3 _ _ q2;refine h.new λb20 F4 h=> ?_;rw [show wr (#[Z7 ZR 0 0,.slice ZR 0 0,vi 0,.slice ZR 0 0,.slice ZR 0 0,.slice ZR 0 0,vi 0,.slice ZR 0 0,.slice ZR 0 0,.slice ZR 0 0]:Γ) 0 (g.arr c n t s p lv f).toList=anA g c n t s p lv f Z3 by kernel_rfl] at h;refine ⟨_,ld (h.le _ _ q2) rfl,?_⟩;have h:=h.nilOwn 31 2;have ep:=hs.p.len
 refine bi (zA · (.func (.func kr) fst cap) b2 b4 b20 p _) g.ZG.length (λi F'=>∃(G':PH) (sl:Sl) (vs:List Γ),G3.le G'/\df G' (pc g i) vs/\
  St G' F' (own sl 31 2 (cat vs)::pt b20 (ZP (anA g c n t s p lv f sl) 107)::pt b4 (ZP #[vi 0] 40)::As)) ⟨G3,Z3,[],al _,.nil,h⟩ ?_
 rintro i F5 N hi ⟨G4,sl,vs,l4,hv,h⟩ next;have hs4:=hs.le l4;unfold zA;refine ⟨λhlt=> ?_,λhge=> ?_⟩
 ·have hlt:i<g.ZG.length:=by omega
  refine h.ix hs4.p (by decide) (by omega) (by omega) λa c8 x hx hrow hc8=>⟨c8,Mem.len hc8,hrow,?_⟩;rw [N5] at hx;have hxm:=XQ hx;obtain ⟨hxc,hxd,_⟩:=hk.prod hxm;refine h.var (Mem.st hc8) (λb8 G5 F6 l5 q8 h=> ?_) rfl (Mem.len hc8);obtain ⟨r8,n8,l8,rfl,hr8,hn8,_⟩:=hc8;have hs5:=hs4.le l5;have q25:=l5 _ _ (l4 _ _ q2);have d1:DV G5 #[n.v,vi g.fam.2] (dia (tre g.fam)):=by rw [<- hk.fam.2];exact DV.mk hs5.n
  have d2:DV G5 #[n8.v,vi x.cond.2] (dia (tre x.cond)):=by rw [<- hxd];exact DV.mk (hn8.le l5)
  refine ⟨#[n.v,vi g.fam.2],rfl,iM (h.le _ _ q25) rfl,#[n8.v,vi x.cond.2],rfl,iM (h.le _ _ q8) rfl,?_⟩;refine h.run (P:=λr' G'=>∃y,r'=Z2 #[ZU y,vi 0]/\DV G' y (dia (ap2 aY (tre g.fam) (tre x.cond)))) ((iA hk.le hk.fam.1 hxc d1 d2).mono λr F' ⟨x,a,b,c⟩=>⟨⟨x,a,b⟩,c⟩) λ_ G6 F7 hr6 l6 h=> ?_;obtain ⟨y,rfl,hy⟩:=hr6;refine ⟨_,_,rfl,?_⟩;refine h.runv (bB hy) λG7 F8 l7 h=>⟨_,rfl,?_⟩;have l57:=aa l6 l7;refine h.new λb9 F9 h=> ?_;refine h.put0 (w':=y) hy.size rfl hy.st λF10 h=>⟨_,ld (h.le _ _ (l57 _ _ q8)) rfl,?_⟩;refine Q8 hk hx (l57 _ _ q25) (hs5.le l57).t (hr8.le (aa l5 l57)) (hl x hxm) (hk.fam.1.ap2 (o:=aY) hxc) (hy.le l7) h λG8 F11 w' l8' hw h=> ?_;unfold zy;refine ⟨_,h.ld2 rfl,w',hw.size,ac (h.ptAt (i:=0) rfl),hw.size,?_⟩;have l58:=aa l57 l8';have hv8:=hv.le (aa l5 l58);have hsl:sl.len=i:=by have:=RL.len ⟨vs,hv8.le h.le,bX.rd (h.ownAt (i:=1) rfl).1⟩ (by decide);rw [jr] at this;exact this
  refine h.push1 T hw.size hw.st (by omega) λs' G9 F12 l9 h hl'=> ?_;refine h.set2 (w':=anA g c n t s p lv f s') (Z8 rfl) rfl λF13 h=> ?_;unfold FF;rw [aC hlt];refine next _ hlt ⟨G9,s',vs++[w'],aa l4 (aa l5 (aa l58 l9)),?_,?_⟩
  ·rw [D0];have e:aF g i=jq g (ap2 aY (tre g.fam) (tre x.cond)) x.right:=by unfold aF;rw [hx]
   rw [e];exact (hv8.append (.cons hw .nil)).le l9
  ·rw [bR,cL];exact h.tail
 ·have e:i=g.ZG.length:=by omega
  subst e;unfold FE;obtain ⟨G5,l5,hd,h⟩:=h.pinO;obtain ⟨G6,l6,⟨H,hA,hH⟩,h⟩:=h.pin;have q20:=hH _ _ hA;have lAll:=aa l4 (aa l5 l6);have hAn:AnV G6 b20 g:=⟨c,n,t,s,p,lv,f,sl,q20,hs.le lAll,⟨vs,hv.le (aa l5 l6),hd.le l6⟩⟩;refine ⟨kr,fst,cap,rfl,cb,?_⟩;refine (h.rot.callL (Bs':=λ_ G'=>Bs G') (P:=λr _=>r=Z2 #[]) λF1 h1=>run G6 b20 F1 (aa l13 lAll) hAn h1).mono ?_;rintro r F7 ⟨G7,rfl,l7,h⟩;refine ⟨rfl,?_⟩;have h:=h.unrot;refine h.set0 (w':= #[vi 0]) (Z8 rfl) rfl λF8 h=>⟨_,h.ld0 rfl,rfl,G7,aa l13 (aa lAll l7),h.tail⟩
end
theorem FY:aE prog 124=ZT:=by kernel_rfl
section
variable {G G0 F:PH} {m k:Nat} {σ:Type}
structure OH (G:PH) (k m:Nat) (kr:Nat) (fst cap:Γ) (keys:Φ) (Inv:(Int->Tr)->Prop) (rnd:(Int->Tr)->Int->Tr) (aux:(Int->Tr)->σ) (As:PH->σ->List (Ψ)):Prop where
 cb:aE prog kr=ZT
 sx:∀S,Sxs k S->Inv S->Sxs k (rnd S)/\Inv (rnd S)/\Lt' S (rnd S)/\∀n,rnd S n≠S n->n∈keys
 run:∀G' F' S x b2 b4,G.le G'->Sxs k S->Inv S->G'.cell ⟨b2,0,ZR⟩=ZO (.map (ZO m))->St G' F' (mS aJ G' m S::pt b4 (ZP #[ZV ZQ] 4)::As G' x)->
  aj prog kr (fst++ #[.func (.func 124) #[] #[ZZ (ZO ⟨b2,0,ZR⟩),ZZ (ZO ⟨b4,0,ZR⟩)]]++cap) F' λr F''=>∃G'' ch,r=Z2 #[]/\G'.le G''/\(ch=ZT↔rnd S≠S)/\
   St G'' F'' (mS aJ G'' m (rnd S)::pt b4 (ZP #[ZV ch] 4)::As G'' (aux S))
theorem uc {kr:Nat} {fst cap:Γ} {keys:Φ} {Inv:(Int->Tr)->Prop} {rnd:(Int->Tr)->Int->Tr} {aux:(Int->Tr)->σ} {As:PH->σ->List (Ψ)} (Rn:OH G k m kr fst cap keys Inv rnd aux As)
  (up:∀G' G'' F' x S,G'.le G''->St G'' F' (mS aJ G' m S::As G' x)->St G'' F' (mS aJ G'' m S::As G'' x)) {S:Int->Tr} {x:σ} (hS:Sxs k S) (hI:Inv S) (h:St G F (mS aJ G m S::As G x)):
  ν 63 #[.map (ZO m),.func (.func kr) fst cap] F λr F'=>∃G' S',r=Z2 #[]/\G.le G'/\Sxs k S'/\Inv S'/\rnd S'=S'/\St G' F' (mS aJ G' m S'::As G' (aux S')):=by
 refine Wb ?_;unfold QT;refine h.newG λb2 G1 F1 l1 q2 _ h=> ?_;have h:=up G G1 F1 x S l1 h;refine h.new λb4 F2 h=> ?_;refine h.set0 (w':= #[ZV ZT]) (Z8 rfl) rfl λF3 h=> ?_
 refine ⟨λq p F'=>∃(b:Nat) (G':PH) (S':Int->Tr) (y:σ) (ch:Bool),p=ZO (ZX b 0 ZR)/\q=mu k keys S'+(if ch=ZT then 1 else 0)/\G1.le G'/\Sxs k S'/\Inv S'/\(ch=ZQ->rnd S'=S'/\y=aux S')/\
  St G' F' (pt b (ZP #[ZV ch] 4)::mS aJ G' m S'::As G' y),mu k keys S+1,⟨b4,G1,S,x,ZT,rfl,rfl,al _,hS,hI,λhc=>(by cases hc),h⟩,?_⟩
 rintro q p F4 ⟨b,G2,S2,y,ch,rfl,rfl,l2,hS2,hI2,hc2,h⟩;unfold FN;refine ⟨_,rfl,ch,h.ld0 rfl,λht=> ?_,λhf=> ?_⟩
 ·subst ht;refine h.set0 (w':= #[ZV ZQ]) (Z8 rfl) rfl λF5 h=>⟨kr,fst,cap,rfl,Rn.cb,?_⟩;obtain ⟨s1,s2,s3,s4⟩:=Rn.sx S2 hS2 hI2;refine (Rn.run G2 F5 S2 y b2 b (aa l1 l2) hS2 hI2 (ld (l2 _ _ q2) rfl) h.swap).mono ?_;rintro _ F6 ⟨G3,ch',rfl,l3,hch,h⟩;refine ⟨rfl,ch',h.ld1 rfl,?_⟩;have h:=h.swap;refine h.new λb5 F7 h=> ?_;refine h.set0 (w':= #[ZV ch']) (Z8 rfl) rfl λF8 h=> ?_;refine ⟨mu k keys (rnd S2)+(if ch'=ZT then 1 else 0),?_,b5,G3,rnd S2,aux S2,ch',rfl,rfl,aa l2 l3,s1,s2,λhf=> ?_,h.swap.tail.swap.swap⟩
  ·obtain ⟨m1,m2⟩:=xJ hS2 s1 s3 keys;rw [Χ rfl];by_cases hc:ch'=ZT
   ·rw [Χ hc];have hne:=hch.1 hc;obtain ⟨n,hn⟩:∃n,rnd S2 n≠S2 n:=Classical.not_forall.1 λha=>hne (funext ha);have:=m2 n (s4 n hn) (Ne.symm hn);omega
   ·rw [Υ hc];omega
  ·have e:rnd S2=S2:=Classical.not_not.1 λhne=>by rw [hch.2 hne] at hf;cases hf
   exact ⟨by rw [e,e],by rw [e]⟩
 ·subst hf;obtain ⟨e1,e2⟩:=hc2 rfl;exact ⟨G2,S2,rfl,aa l1 l2,hS2,hI2,e1,by rw [<- e2];exact h.tail⟩
end
abbrev qS (b2 b4:Nat):Value:=.func (.func 124) #[] #[ZZ (ZO ⟨b2,0,ZR⟩),ZZ (ZO ⟨b4,0,ZR⟩)]
theorem iB {κ:Type} {k:Nat} {S T U:κ->Tr} (hS:Sxs k S) (hT:Sxs k T) (hU:Sxs k U) (h1:Lt' S T) (h2:Lt' T U):(T≠S\/U≠T)↔U≠S:=by
 constructor
 ·rintro h rfl;have e:T=U:=Lt'.antisymm hT hU h2 h1;rcases h with h|h
  ·exact h e
  ·exact h e.symm
 ·intro h;by_cases e:T=S
  ·exact .inr λe2=>h (e2.trans e)
  ·exact .inl e
theorem ud {st:Bool} {x:Pr}:gz st x=ZT↔st=ZT/\∃s∈x.right,s.t=ZT:=by unfold gz;rw [X7,YO]
section
variable {G F:PH} {As:List (Ψ)} {g:Gr} {k m:Nat} {st:Bool}
structure DrE (G:PH) (g:Gr) (st:Bool) (m ban b1 b3 b5 b2:Nat):Prop where
 q1:G b1=ZO (ZP #[ZZ (ZO ⟨ban,0,ZR⟩)] 93)
 q3:G b3=ZO (ZP #[ZV st] 4)
 q5:G b5=ZO (ZP #[.map (ZO m)] 95)
 q2:G.cell ⟨b2,0,ZR⟩=ZO (.map (ZO m))
 an:AnV G ban g
theorem DrE.le {G G':PH} {ban b1 b3 b5 b2:Nat} (h:DrE G g st m ban b1 b3 b5 b2) (l:G.le G'):DrE G' g st m ban b1 b3 b5 b2:=⟨l _ _ h.q1,l _ _ h.q3,l _ _ h.q5,aK l h.q2,h.an.le l⟩
theorem JV {ban b1 b3 b5 b2 b4:Nat} (hk:OkK g k) (hl:∀x∈g.ZG,x.right.length<=1000000) (hp:g.ZG.length<=1000000) (E:DrE G g st m ban b1 b3 b5 b2) {S:Int->Tr} (hS:Sxs k S)
  (h:St G F (mS aJ G m S::pt b4 (ZP #[ZV ZQ] 4)::As)):
  ν 113 #[qS b2 b4,.pointer (ZO ⟨b1,0,ZR⟩),ZZ (ZO ⟨b3,0,ZR⟩),ZZ (ZO ⟨b5,0,ZR⟩)] F λr F''=>∃G'' ch,r=Z2 #[]/\G.le G''/\(ch=ZT↔jh st (aF g) 0 g.ZG S≠S)/\
   St G'' F'' (mS aJ G'' m (jh st (aF g) 0 g.ZG S)::pt b4 (ZP #[ZV ch] 4)::As):=by
 obtain ⟨c,n,t,s,p,lv,f,q,qa,hs,hq⟩:=E.an.ex;have ep:=hs.p.len;have eq:=hq.len;rw [jr] at eq;refine Q3 ?_;unfold Mi;refine ⟨_,rfl,_,ld (h.le _ _ E.q1) rfl,_,rfl,_,by rw [aG];exact ld (h.le _ _ qa) rfl,?_⟩
 refine bi (vD · (qS b2 b4) (ZX b1 0 ZR) _ _ p _) g.ZG.length (λi F'=>∃(G':PH) (S':Int->Tr) (ch:Bool),G.le G'/\Sxs k S'/\Lt' S S'/\jh st (aF g) 0 g.ZG S=jh st (aF g) i (g.ZG.drop i) S'/\(ch=ZT↔S'≠S)/\
  St G' F' (mS aJ G' m S'::pt b4 (ZP #[ZV ch] 4)::As)) ⟨G,S,ZQ,al _,hS,Lt'.refl S,by rw [Yw],by simp,h⟩ ?_
 rintro i F1 N hi ⟨G1,S1,ch,l1,hS1,hle,hrd,hch,h⟩ next;have E1:=E.le l1;have up:∀{G1 G2 F':PH} {S':Int->Tr} {As':List (Ψ)},St G2 F' (mS aJ G1 m S'::As')->G1.le G2->St G2 F' (mS aJ G2 m S'::As'):=λ{G1 G2 F' S' As'} h l=>h.imp 0 rfl λH _ ⟨o,mp,a1,a2,a3⟩=>⟨o,mp,a1,a2,a3.le l⟩;unfold vD;refine ⟨λhlt=> ?_,λhge=> ?_⟩
 ·have hlt:i<g.ZG.length:=by omega
  have hs1:=hs.le l1;refine h.ix hs1.p (by decide) (by omega) (by omega) λa c6 x hx hrow hc6=>⟨c6,Mem.len hc6,hrow,?_⟩;rw [N5] at hx;have hxm:=XQ hx;have edrop:g.ZG.drop i=x::g.ZG.drop (i+1):=bQ hx;obtain ⟨a1,a2⟩:=gA (st:=st) hS1 (hk.prs i) x;refine h.var (Mem.st hc6) (λb6 G2 F2 l2 q6 h=> ?_) rfl (Mem.len hc6);obtain ⟨r,n6,l6,rfl,hr,hn6,_⟩:=hc6;have er:=(hr.le l2).len;refine ⟨_,ld (h.le _ _ q6) rfl,?_⟩;have goOn:∀{G' F':PH} {ch':Bool} {S':Int->Tr},G2.le G'->S'=(if gz st x=ZT then S1 else bx S1 x.left (dL S1 (aF g i) x.right))->(ch'=ZT↔ch=ZT\/S'≠S1)->St G' F' (mS aJ G' m S'::pt b4 (ZP #[ZV ch'] 4)::As)->
    px N (qS b2 b4) (ZX b1 0 ZR) (ZO (ZX b3 0 ZR)) (ZO (ZX b5 0 ZR)) p (i:Int) (λr F''=>∃G'' ch,r=Z2 #[]/\G.le G''/\(ch=ZT↔jh st (aF g) 0 g.ZG S≠S)/\
   St G'' F'' (mS aJ G'' m (jh st (aF g) 0 g.ZG S)::pt b4 (ZP #[ZV ch] 4)::As)) F':=λ{G' F' ch' S'} l e hch' h=>by
   unfold px;rw [aC hlt];subst e;refine next _ hlt ⟨G',_,ch',aa l1 (aa l2 l),a1,hle.trans a2,?_,?_,h⟩
   ·rw [hrd,edrop];rfl
   ·rw [hch',hch];exact iB hS hS1 a1 hle a2
  refine bi (vC N · (qS b2 b4) (ZX b1 0 ZR) (ZO (ZX b3 0 ZR)) (ZO (ZX b5 0 ZR)) (i:Int) b6 p r _) x.right.length (λj F'=>∃G':PH,G2.le G'/\(st=ZT->∀(j':Nat) (y:Sy),j'<j->x.right[j']? =ZO y->y.t=ZQ)/\
   St G' F' (mS aJ G' m S1::pt b4 (ZP #[ZV ch] 4)::As)) ⟨G2,al _,λ_ j' y hj=>by omega,up h l2⟩ ?_
  rintro j F3 N2 hj ⟨G3,l3,hno,h⟩ next2;unfold vC;have E3:=E1.le (aa l2 l3);refine ⟨λhjl=> ?_,λhjg=> ?_⟩
  ·have hjl:j<x.right.length:=by omega
   refine h.ix (hr.le (aa l2 l3)) (by decide) (by omega) (by omega) λa8 c8 y hy hrow8 hc8=>⟨c8,Mem.len hc8,hrow8,?_⟩;rw [N5] at hy;obtain rfl:c8=y.arr:=hc8;refine h.var (by simp [am]) (λb8 G4 F4 l4 q8 h=>⟨_,ld (h.le _ _ q8) rfl,λhyt=> ?_,λhyt=> ?_⟩) rfl rfl
   ·have hyt:y.t=ZT:=hyt;refine ⟨_,rfl,_,ld (h.le _ _ (l4 _ _ E3.q3)) rfl,λhst=> ?_,λhst=> ?_⟩
    ·refine goOn (aa l3 l4) (S':=S1) ?_ (by simp) (up h l4);rw [Χ (ud.2 ⟨hst,y,XQ hy,hyt⟩)]
    ·unfold py;rw [aC hjl (by have:=hl x hxm;omega)];exact next2 _ hjl ⟨G4,aa l3 l4,λh=>(by rw [show st=ZQ from hst] at h;cases h),up h l4⟩
   ·unfold py;rw [aC hjl (by have:=hl x hxm;omega)];refine next2 _ hjl ⟨G4,aa l3 l4,λhst j' z hj' hz=> ?_,up h l4⟩;by_cases e:j'=j
    ·subst e;rw [hy] at hz;cases hz;exact hyt
    ·exact hno hst j' z (by omega) hz
  ·have hj:j=x.right.length:=by omega
   subst hj;have hskip:¬gz st x=ZT:=λhsk=>by obtain ⟨h1,y,hy,hyt⟩:=ud.1 hsk;obtain ⟨j',hj'⟩:=List.getElem?_of_mem hy;have:=hno h1 j' y (XN.1 hj').1 hj';rw [hyt] at this;cases this
   unfold BW;have l13:=aa l1 (aa l2 l3);have qa3:=l13 _ _ qa;have q63:=l3 _ _ q6;refine ⟨_,ld (h.le _ _ q63) rfl,_,ld (h.le _ _ E3.q1) rfl,_,rfl,_,by rw [aG];exact ld (h.le _ _ qa3) rfl,?_⟩;refine h.ix (hq.le l13) (by decide) (by omega) (by omega) λa9 c9 dd hdd hrow9 hc9=>⟨c9,Mem.len hc9,hrow9,?_⟩;rw [N5] at hdd;have hdd:dd=dia (aF g i):=by unfold pc at hdd;rw [X2,Yo hlt] at hdd;exact (Yh hdd).symm
   have hc9:DV G3 c9 (dia (aF g i)):=by rw [<- hdd];exact hc9
   refine ⟨_,ld (h.le _ _ q63) rfl,_,rfl,_,ld (h.le _ _ E3.q5) rfl,?_⟩;refine (gU h (al _) hk.le hS1 (hk.prs i) hc9 (hr.le (aa l2 l3)) (hl x hxm)).mono ?_;rintro _ F5 ⟨G5,u,rfl,hu,l5,h⟩;have E5:=E3.le l5;refine ⟨u,rfl,by rw [aG];exact ld (h.le _ _ (l5 _ _ qa3)) rfl,ld (h.le _ _ E5.q1) rfl,ld (h.le _ _ (l5 _ _ q63)) rfl,_,_,_,rfl,FY,?_⟩;refine (ua h l5 hk.le hS1 (bC hS1 x.right (hk.prs i)).1 hu E5.q2 x.left).mono ?_;rintro _ F6 ⟨G6,ch',rfl,hch',l6,h⟩;refine ⟨rfl,by rw [aG];exact ld (h.le _ _ (l6 _ _ (l5 _ _ qa3))) rfl,ld (h.le _ _ (l6 _ _ E5.q1)) rfl,?_⟩;exact goOn (aa l3 (aa l5 l6)) (by rw [Υ hskip]) hch' h
 ·have e:i=g.ZG.length:=by omega
  subst e;rw [YB] at hrd;have hrd:jh st (aF g) 0 g.ZG S=S1:=hrd;rw [hrd];exact ⟨G1,ch,rfl,l1,hch,h⟩
end
theorem OI:aE prog 113=ZT:=by kernel_rfl
section
variable {G F:PH} {As:List (Ψ)} {g:Gr} {k m:Nat} {st:Bool}
theorem St.toMap {κ:Type} [DecidableEq κ] (enc:κ->ξ) (h:St G F (pt m (.map #[] 0)::As)):St G F (mS enc G m (λ_=>ZL ZQ)::As):=
 h.imp (A':=mS enc G m (λ_=>ZL ZQ)) 0 rfl λH _ hH=>⟨_,_,hH,eM.empty enc,jp.empty G⟩
theorem JW {ban b1 b3 b5:Nat} (hk:OkK g k) (hl:∀x∈g.ZG,x.right.length<=1000000) (hp:g.ZG.length<=1000000) (q1:G b1=ZO (ZP #[ZZ (ZO ⟨ban,0,ZR⟩)] 93)) (q3:G b3=ZO (ZP #[ZV st] 4))
  (q5:G b5=ZO (ZP #[.map (ZO m)] 95)) (hAn:AnV G ban g):
  OH G k m 113 #[] #[ZZ (ZO ⟨b1,0,ZR⟩),ZZ (ZO ⟨b3,0,ZR⟩),ZZ (ZO ⟨b5,0,ZR⟩)] (g.ZG.map (·.left)) (Snd g.ZG (aF g) st) (jh st (aF g) 0 g.ZG) (λ_=>()) (λ_ _=>As) where
 cb:=OI
 sx S hS hI:=by obtain ⟨a1,a2,a3⟩:=kP (st:=st) hk.prs g.ZG 0 hS;refine ⟨a1,xK hk.prs g.ZG 0 (λj x hj=>by rw [X5];exact hj) hS hI,a2,λn hn=> ?_⟩;obtain ⟨x,hx,e⟩:=a3 n hn;exact X1.2 ⟨x,hx,e⟩
 run G' F' S x b2 b4 l hS hI hc h:=by
  have e:(#[]++ #[qS b2 b4]++ #[ZZ (ZO ⟨b1,0,ZR⟩),ZZ (ZO ⟨b3,0,ZR⟩),ZZ (ZO ⟨b5,0,ZR⟩)]:Γ)= #[qS b2 b4,.pointer (ZO ⟨b1,0,ZR⟩),ZZ (ZO ⟨b3,0,ZR⟩),ZZ (ZO ⟨b5,0,ZR⟩)]:=by simp
  rw [e];refine (JV hk hl hp ⟨l _ _ q1,l _ _ q3,l _ _ q5,hc,hAn.le l⟩ hS h).mono ?_;rintro r F'' ⟨G'',ch,h1,h2,h3,h4⟩;exact ⟨G'',ch,h1,h2,h3,h4⟩
theorem cU {ban:Nat} (hk:OkK g k) (hl:∀x∈g.ZG,x.right.length<=1000000) (hp:g.ZG.length<=1000000) (hAn:AnV G ban g) (h:St G F As):
  ν 54 #[ZZ (ZO ⟨ban,0,ZR⟩),ZV st] F λr F'=>∃G' mm S,r=.map (ZO mm)/\G.le G'/\bZ k g.ZG (aF g) st S/\St G' F' (mS aJ G' mm S::As):=by
 refine V6 ?_;unfold QO;refine h.newG λb1 G1 F1 l1 q1 _ h=>h.newG λb3 G2 F2 l2 q3 _ h=>h.new λmm F3 h=> ?_;have h:=h.toMap aJ;refine h.new λb5 F4 h=> ?_;refine h.set0 (w':= #[.map (ZO mm)]) (Z8 rfl) rfl λF5 h=> ?_;obtain ⟨G3,l3,⟨H,hA,hH⟩,h⟩:=h.pin;have q5:=hH _ _ hA;have l13:=aa l1 (aa l2 l3);have up:∀(G' G'' F':PH) (x:Unit) (S:Int->Tr),G'.le G''->St G'' F' (mS aJ G' mm S::As)->St G'' F' (mS aJ G'' mm S::As):=λG' G'' F' _ S l h=>h.imp 0 rfl λH _ ⟨o,mp,a1,a2,a3⟩=>⟨o,mp,a1,a2,a3.le l⟩;have h:=up _ _ _ () _ l3 h;refine ⟨_,ld (h.le _ _ q5) rfl,?_⟩;refine (uc (JW (As:=As) hk hl hp (l3 _ _ (l2 _ _ q1)) (l3 _ _ q3) q5 (hAn.le l13)) up (x:=()) (λ_=>Sx.ZL k ZQ) (λn c hc=>by cases hc) h).mono ?_;rintro _ F6 ⟨G6,S,rfl,l6,hS,hI,he,h⟩;exact ⟨rfl,_,ld (h.le _ _ (l6 _ _ q5)) rfl,G6,mm,S,rfl,aa l13 l6,FB hk.prs hS hI he,h⟩
end
theorem Q9:∃b z,SlT 29 124 3 b z:=⟨_,_,underlying29,yU,yV,rfl,by decide,by decide⟩
def bv (S:Int->Tr) (n:Nat):List Dia:=(List.range n).map λ(i:Nat)=>dia (S (i:Int))
theorem nB (S:Int->Tr) (n:Nat):bv S (n+1)=bv S n++[dia (S n)]:=by unfold bv;rw [Zr,Yd];rfl
theorem JX {w:Γ} {i n:Nat} {v:Γ} (hv:v.size=2) (hw:w.size=n*2) (hi:i<n):(wr w (i*2) v.toList).size=n*2/\(wr w (i*2) v.toList).toList.take ((i+1)*2)=w.toList.take (i*2)++v.toList:=by
 have hl:w.toList.length=n*2:=hw;have hvl:v.toList.length=2:=hv;have e:=dR v.toList w.toList (i*2) (by omega);rw [show w.toList.toArray=w by simp] at e;refine ⟨?_,?_⟩
 ·have:(wr w (i*2) v.toList).toList.length=n*2:=by rw [e];simp only [XT,XX,Y6];omega
  exact this
 ·rw [e,Yb (by simp only [XT,XX];omega)];exact XY (by simp only [XT,XX];omega)
section
variable {G F:PH} {As:List (Ψ)} {k m:Nat}
theorem fz {S:Int->Tr} (h:St G F (mS aJ G m S::As)) (hk:k<=6) (n:Nat) (hS:∀i:Nat,i<n->Sx k (S i)) (hn:n<=1000000):
  ν 53 #[.map (ZO m),vi n] F λr F'=>∃G' sl,r=ZS sl/\G.le G'/\RL G' sl (bv S n)/\St G' F' As:=by
 obtain ⟨_,_,T⟩:=Q9;refine V5 ?_;unfold QN;refine bW underlying39 PX Is rfl (by omega) (Zv _) (by omega) (by omega) ?_;refine λb hb=>⟨_,rfl,?_⟩;rw [N5];have hz:(Builtin.zeroCells (Value.agg zD).cells n).size=n*2:=by simp [Builtin.zeroCells,Value.cells]
 generalize Builtin.zeroCells (Value.cells _) n=z0 at hz ⊢;revert b hb;refine h.new (K:=λb F'=>Lp (0:Int) F' λN v F=>vn N (ZO m) ⟨ZO ⟨b,0,ZR⟩,n,n⟩ _ v F) λb F1 h=> ?_
 refine bi (vn · (ZO m) ⟨ZO ⟨b,0,ZR⟩,n,n⟩ _) n (λi F'=>∃(G':PH) (cur:Γ) (vs:List Γ),G.le G'/\cur.size=n*2/\df G' (bv S i) vs/\cur.toList.take (i*2)=cat vs/\
  St G' F' (pt b (ZP cur 31)::mS aJ G m S::As)) ⟨G,z0,[],al _,hz,.nil,by simp [cat],h⟩ ?_
 rintro i F2 N hi ⟨G1,cur,vs,l1,hcs,hv,hc,h⟩ next;unfold vn;refine ⟨λhlt=> ?_,λhge=> ?_⟩
 ·have hlt:i<n:=by have:(i:Int)<(n:Int):=hlt;omega
  refine (fw h.swap l1 (i:Int)).mono ?_;rintro _ F3 ⟨G2,u,rfl,hu,l2,h⟩;refine ⟨u,rfl,?_⟩;refine h.var hu.st (λb7 G3 F4 l3 q7 h=> ?_) rfl hu.size;obtain ⟨sd,rfl,hrd⟩:=hu;refine ⟨_,ld (h.le _ _ q7) rfl,_,ld (h.le _ _ q7) rfl,?_⟩;have hlen:=hrd.blen;have hsm:=(hS i hlt).len hk;have hsm:(dia (S (i:Int))).1.length<=63:=by show (brs _).length<=63;rw [aP];exact hsm
  have h:=h.nilOwn 124 3;refine h.app0 T (((hrd.le l3).le h.le)) (im _) (by show 0+sd.len<=_;omega) λs' F5 h hl'=> ?_;rw [Yu] at h;obtain ⟨G4,l4,hs',h⟩:=h.pinO;have h:=h.swap;refine ⟨ld (h.le _ _ (l4 _ _ q7)) rfl,_,rfl,by omega,by show (i:Int)<(n:Int);omega,?_⟩;dsimp only;rw [aG,N5,X5];obtain ⟨e1,e2⟩:=JX (v:= #[s'.v,vi (dia (S (i:Int))).2]) rfl hcs hlt;refine h.putR0 (w':=wr cur (i*2) (#[s'.v,vi (dia (S (i:Int))).2]:Γ).toList) rfl (by simp [am,ZS]) (show i*2+2<=cur.size by rw [hcs];omega) rfl λF6 h=> ?_;rw [aC hlt];have l14:=aa l2 (aa l3 l4);refine next _ hlt ⟨G4,_,vs++[#[s'.v,vi (dia (S (i:Int))).2]],aa l1 l14,e1,?_,?_,h⟩
  ·rw [nB];exact (hv.le l14).append (.cons (DV.mk (RL.brs.2 hs')) .nil)
  ·rw [e2,hc,bR,cL]
 ·have e:i=n:=by have:¬(i:Int)<(n:Int):=hge;omega
  subst e;unfold FG;obtain ⟨G2,l2,⟨H,hA,hH⟩,h⟩:=h.pin;have q:=hH _ _ hA;have hcl:=(hv.le l2).cat_len;have hll:(bv S i).length=i:=by unfold bv;rw [XW,Yq]
  exact ⟨G2,_,rfl,aa l1 l2,⟨vs,hv.le l2,RdS.new q hc (by rw [hcl,hll]) (XS _)⟩,h.tail⟩
end
section
variable {G F:PH} {As:List (Ψ)} {g:Gr} {k:Nat}
def FZ (g:Gr) (k:Nat) (st:Bool) (b:Nat) (G:PH):List (Ψ):=[λH=>∃sl S,bZ k g.ZG (aF g) st S/\RL G sl (bv S g.ZH.length)/\H b=ZO (ZP #[ZS sl] 39)]
theorem ue {st:Bool} {b:Nat} (h:St G F (FZ g k st b G)):∃sl S,bZ k g.ZG (aF g) st S/\RL G sl (bv S g.ZH.length)/\St G F [pt b (ZP #[ZS sl] 39)]:=by obtain ⟨H1,h1⟩:=h.get (i:=0) rfl;obtain ⟨sl,S,e1,e2,e3⟩:=h1.1;refine ⟨sl,S,e1,e2,h.imp (A':=pt b (ZP #[ZS sl] 39)) 0 rfl λH' hl hH'=> ?_⟩;obtain ⟨sl',S',f1,f2,f3⟩:=hH';have i1:=h1.2.2 _ _ e3;have i2:=hl _ _ f3;rw [i1] at i2;show H' b=_;rw [f3,<- i2]
theorem xR:aE prog 52=ZT:=by kernel_rfl
theorem tR:aE prog 57=ZT:=by kernel_rfl
theorem qT {v:Γ} {ban b1 b2:Nat} (hk:OkK g k) (hl:∀x∈g.ZG,x.right.length<=1000000) (hp:g.ZG.length<=1000000) (hs:g.ZH.length<=1000000) (hAn:AnV G ban g) (q1:G b1=ZO (ZP v 37)) (hg:GV G v g)
  (h:St G F [pt b2 (ZP #[ZS Z3] 39)]):ν 52 #[ZZ (ZO ⟨ban,0,ZR⟩),ZZ (ZO ⟨b1,0,ZR⟩),ZZ (ZO ⟨b2,0,ZR⟩)] F λr F'=>∃G',r=Z2 #[]/\G.le G'/\St G' F' (FZ g k ZT b2 G'):=by
 obtain ⟨c,n,t,s,p,l,f,rfl,hgs⟩:=hg;have es:=hgs.s.len;refine V4 ?_;unfold QM;refine ⟨_,rfl,_,by rw [aG];exact ld (h.le _ _ q1) rfl,?_⟩;refine (cU hk hl hp hAn h).mono ?_;rintro _ F1 ⟨G1,mm,S,rfl,l1,hS,h⟩;refine ⟨_,rfl,by rw [aG];exact ld (h.le _ _ (l1 _ _ q1)) rfl,?_⟩;rw [es];refine (fz h hk.le g.ZH.length (λi _=>hS.sx i) hs).mono ?_;rintro _ F2 ⟨G2,sl,rfl,l2,hsl,h⟩;refine ⟨_,rfl,by rw [aG];exact ld (h.le _ _ (l2 _ _ (l1 _ _ q1))) rfl,_,rfl,?_⟩;refine h.set0 (w':= #[ZS sl]) (Z8 rfl) rfl λF3 h=>⟨G2,rfl,aa l1 l2,?_⟩;exact h.imp 0 rfl λH _ hH=>⟨sl,S,hS,hsl,hH⟩
theorem lC {v:Γ} (hT:Tab F) (hg:GV F v g) (hz:Sz g) (hk:OkK g k) (hl:∀x∈g.ZG,x.right.length<=1000000) (hp:g.ZG.length<=1000000) (hs:g.ZH.length<=1000000):
  ν 14 #[ZU v] F λr F'=>(∃sl S,r=Z2 #[ZS sl,vi 0]/\bZ k g.ZG (aF g) ZT S/\RL F' sl (bv S g.ZH.length))/\F.le F':=by
 refine VX ?_;unfold QD;refine (St.start F).newG λb1 G1 F1 l1 q1 _ h=>h.new λb2 F2 h=>⟨v,hg.size,ac (h.le _ _ q1),?_⟩;refine (eJ (kr:=52) (fst:= #[]) (cap:= #[ZZ (ZO ⟨b1,0,ZR⟩),ZZ (ZO ⟨b2,0,ZR⟩)]) (Bs:=FZ g k ZT b2) (hT.le l1) (hg.le l1) hz hk hl hp h xR λG' ban F' l hAn h=> ?_).mono ?_
 ·rw [xQ];exact qT hk hl hp hs hAn (l _ _ q1) ((hg.le l1).le l) h
 rintro _ F3 ⟨rfl,G3,l3,h⟩;obtain ⟨sl,S,h1,h2,h⟩:=ue h;refine ⟨_,rfl,sl,h.ld0 rfl,?_⟩;refine h.set0 (w':= #[ZS sl]) (Z8 rfl) rfl λF4 h=>⟨_,h.ld0 rfl,⟨sl,S,rfl,h1,h2.le h.le⟩,aa l1 (aa l3 h.le)⟩
end
section
variable {G F:PH} {g:Gr} {k:Nat}
theorem nC {v:Γ} {ban b1 b2:Nat} (hk:OkK g k) (hl:∀x∈g.ZG,x.right.length<=1000000) (hp:g.ZG.length<=1000000) (hs:g.ZH.length<=1000000) (hAn:AnV G ban g) (q1:G b1=ZO (ZP v 37)) (hg:GV G v g)
  (h:St G F [pt b2 (ZP #[ZS Z3] 39)]):ν 57 #[ZZ (ZO ⟨ban,0,ZR⟩),ZZ (ZO ⟨b1,0,ZR⟩),ZZ (ZO ⟨b2,0,ZR⟩)] F λr F'=>∃G',r=Z2 #[]/\G.le G'/\St G' F' (FZ g k ZQ b2 G'):=by
 obtain ⟨c,n,t,s,p,l,f,rfl,hgs⟩:=hg;have es:=hgs.s.len;refine V7 ?_;unfold QP;refine ⟨_,rfl,_,by rw [aG];exact ld (h.le _ _ q1) rfl,?_⟩;refine (cU hk hl hp hAn h).mono ?_;rintro _ F1 ⟨G1,mm,S,rfl,l1,hS,h⟩;refine ⟨_,rfl,by rw [aG];exact ld (h.le _ _ (l1 _ _ q1)) rfl,?_⟩;rw [es];refine (fz h hk.le g.ZH.length (λi _=>hS.sx i) hs).mono ?_;rintro _ F2 ⟨G2,sl,rfl,l2,hsl,h⟩;refine ⟨_,rfl,by rw [aG];exact ld (h.le _ _ (l2 _ _ (l1 _ _ q1))) rfl,_,rfl,?_⟩;refine h.set0 (w':= #[ZS sl]) (Z8 rfl) rfl λF3 h=>⟨G2,rfl,aa l1 l2,?_⟩;exact h.imp 0 rfl λH _ hH=>⟨sl,S,hS,hsl,hH⟩
theorem js {v:Γ} (hT:Tab F) (hg:GV F v g) (hz:Sz g) (hk:OkK g k) (hl:∀x∈g.ZG,x.right.length<=1000000) (hp:g.ZG.length<=1000000) (hs:g.ZH.length<=1000000):
  ν 16 #[ZU v] F λr F'=>(∃sl S,r=Z2 #[ZS sl,vi 0]/\bZ k g.ZG (aF g) ZQ S/\RL F' sl (bv S g.ZH.length))/\F.le F':=by
 refine VY ?_;unfold QE;refine (St.start F).newG λb1 G1 F1 l1 q1 _ h=>h.new λb2 F2 h=>⟨v,hg.size,ac (h.le _ _ q1),?_⟩;refine (eJ (kr:=57) (fst:= #[]) (cap:= #[ZZ (ZO ⟨b1,0,ZR⟩),ZZ (ZO ⟨b2,0,ZR⟩)]) (Bs:=FZ g k ZQ b2) (hT.le l1) (hg.le l1) hz hk hl hp h tR λG' ban F' l hAn h=> ?_).mono ?_
 ·rw [xQ];exact nC hk hl hp hs hAn (l _ _ q1) ((hg.le l1).le l) h
 rintro _ F3 ⟨rfl,G3,l3,h⟩;obtain ⟨sl,S,h1,h2,h⟩:=ue h;refine ⟨_,rfl,sl,h.ld0 rfl,?_⟩;refine h.set0 (w':= #[ZS sl]) (Z8 rfl) rfl λF4 h=>⟨_,h.ld0 rfl,⟨sl,S,rfl,h1,h2.le h.le⟩,aa l1 (aa l3 h.le)⟩
end
section
variable {l l':List Pr} {P P':Nat->Tr} {c c':Cf} {st:Bool}
theorem Der.up {n:Int} (d:Der l P ZT c n):Der l P ZQ c n:=by
 induction d with
 |mk i x hi hp _ _ ih=>exact .mk i x hi hp (λ_ _ _=>rfl) ih
theorem Der.inv {n:Int}:Der l P st c n↔∃i x,l[i]? =ZO x/\x.left=n/\(P i).ev c=ZT/\(∀s∈x.right,s.t=ZT->st=ZQ)/\∀s∈x.right,s.t=ZQ->Der l P st c s.i:=by
 constructor
 ·rintro ⟨i,x,h1,h2,h3,h4⟩;exact ⟨i,x,h1,rfl,h2,h3,h4⟩
 ·rintro ⟨i,x,h1,rfl,h2,h3,h4⟩;exact .mk i x h1 h2 h3 h4
theorem Fst.der {n t:Int} (f:Fst l P c n t):Der l P ZQ c n:=by
 cases f with
 |tok i j x s hi hp hd=>exact .mk i x hi hp (λ_ _ _=>rfl) hd
 |non i j x s t hi hp hd=>exact .mk i x hi hp (λ_ _ _=>rfl) hd
theorem Fst.pres {n t:Int} (f:Fst l P c n t):∃i x,l[i]? =ZO x/\x.left=n/\(P i).ev c=ZT/\x.right≠[]:=by
 cases f with
 |tok i j x s hi hp hd hj=>exact ⟨i,x,hi,rfl,hp,λe=>by rw [e] at hj;cases hj⟩
 |non i j x s t hi hp hd hj=>exact ⟨i,x,hi,rfl,hp,λe=>by rw [e] at hj;cases hj⟩
end
structure BX (k:Nat) (l:List Pr) (P:Nat->Tr) (fam:Tr) (start:Int) (U:Nat->Tr):Prop where
 sx:∀i,Sx k (U i)
 iff:∀i c,i<l.length->((U i).ev c=ZT↔Use l P fam start c i)
def fJ (U:Nat->Tr) (n:Nat):List Dia:=(List.range n).map λi=>dia (U i)
theorem qU {U:Nat->Tr} {n i:Nat} (h:i<n):(fJ U n)[i]? =ZO (dia (U i)):=by unfold fJ;rw [X2,Yo h];rfl
theorem jt (U:Nat->Tr) (n:Nat):(fJ U n).length=n:=by unfold fJ;rw [XW,Yq]
structure ja (k n:Nat) (l:List Pr) (P:Nat->Tr) (C:Int->Tr):Prop where
 sx:Sxs k C
 iff:∀(i:Nat) c,i<n->((C i).ev c=ZT↔Tg (Stp l P c) i i)
section
end
theorem St.exI {α:Type} {G F:PH} {As:List (Ψ)} {A:α->Ψ} (h:St G F As) (i:Nat) (hi:As[i]? =ZO λH=>∃x,A x H):∃x,St G F (As.set i (A x)):=by
 obtain ⟨hl,Hs,h1,h2⟩:=h;obtain ⟨⟨x,hx⟩,hd,hle⟩:=h1 i _ hi;refine ⟨x,hl,Hs,λj B hj=> ?_,λj k hj hk=>h2 j k (by simpa using hj) (by simpa using hk)⟩;by_cases e:j=i
 ·subst e;rw [Yr (XN.1 hi).1] at hj;cases hj;exact ⟨hx,hd,hle⟩
 ·rw [YW (Ne.symm e)] at hj;exact h1 j B hj
theorem St.prI {P:Prop} {G F:PH} {As:List (Ψ)} {A:Ψ} (h:St G F As) (i:Nat) (hi:As[i]? =ZO λH=>P/\A H):P/\St G F (As.set i A):=by obtain ⟨H,⟨hp,_⟩,_⟩:=h.get hi;exact ⟨hp,h.imp i hi λ_ _ h=>h.2⟩
theorem St.hd {G F:PH} {As:List (Ψ)} {A:Ψ} (h:St G F (A::As)):St G F [A]:=h.pick id (λ_ _ _ _ e=>e) λi hi=>by
 cases i with
 |zero=>rfl
 |succ i=>simp at hi
def gV (P:Nat->Tr) (D:Int->Tr):Nat->List Pr->(Int->Tr)->Nat->Tr
 |_,[],_,_=>ZL ZQ
 |i,x::l,S,j=>if j=i then fS P D S i x else gV P D (i+1) l (eH (fS P D S i x) x.right S) j
section
variable {k:Nat} {l:List Pr} {P:Nat->Tr} {D:Int->Tr}
theorem xS {d:Tr} {n:Int}:∀{r:List Sy} {S:Int->Tr},eH d r S n≠S n->∃s∈r,s.i=n
 |[],S,h=>absurd rfl h
 |s::r,S,h=>by
  by_cases e:s.i=n
  ·exact ⟨s,by simp,e⟩
  ·unfold eH at h;have e2:(if s.t=ZT then S else bx S s.i d) n=S n:=by
    split
    ·rfl
    ·unfold bx cQ;rw [Υ (Ne.symm e)]
   rw [<- e2] at h;obtain ⟨y,hy,h⟩:=xS h;exact ⟨y,X8 _ hy,h⟩
theorem BY {n:Int}:∀{l:List Pr} {i:Nat} {S:Int->Tr},gb P D i l S n≠S n->n∈l.flatMap λx=>x.right.map (·.i)
 |[],i,S,h=>absurd rfl h
 |x::l,i,S,h=>by
  rw [YC,XR];by_cases e:eH (fS P D S i x) x.right S n=S n
  ·unfold gb at h;rw [<- e] at h;exact .inr (BY h)
  ·obtain ⟨s,hs,h⟩:=xS e;exact .inl (X1.2 ⟨s,hs,h⟩)
theorem qV (hP:∀i,Sx k (P i)) (hD:Sxs k D) {S:Int->Tr} (hS:Sxs k S) (i:Nat) (x:Pr):Sx k (fS P D S i x)/\Sxs k (eH (fS P D S i x) x.right S)/\Lt' S (eH (fS P D S i x) x.right S):=by obtain ⟨u1,_⟩:=eg hP hD hS i x;obtain ⟨a1,a2⟩:=eI u1 x.right hS;exact ⟨u1,a1,λn c h=>(a2 n c).2 (.inl h)⟩
theorem uf (hP:∀i,Sx k (P i)) (hD:Sxs k D):∀(l:List Pr) (i:Nat) {S:Int->Tr},Sxs k S->gb P D i l S=S->∀(j:Nat) (x:Pr),l[j]? =ZO x->gV P D i l S (i+j)=fS P D S (i+j) x
 |[],_,_,_,_,j,_,h=>by simp at h
 |y::l,i,S,hS,he,j,x,hj=>by
  obtain ⟨u1,a1,a2⟩:=qV hP hD hS i y;unfold gb at he;obtain ⟨b1,b2⟩:=iv hP hD l (i+1) a1;have e1:eH (fS P D S i y) y.right S=S:=by refine Lt'.antisymm a1 hS ?_ a2;rw [he] at b2;exact b2
  rw [e1] at he;unfold gV;cases j with
  |zero=>cases hj;rw [Χ (by omega),Zi]
  |succ j=>rw [Υ (by omega),e1];have:=uf hP hD l (i+1) hS he j x (by simpa using hj);rw [show i+(j+1)=i+1+j by omega];exact this
end
section
variable {G F Gd:PH} {g:Gr} {k m mu ms:Nat} {D:Int->Tr}
def kE (n mu:Nat) (G:PH) (x:Nat->Tr):Ψ:=λH=>∃U:Int->Tr,(∀i:Nat,i<n->U i=x i)/\mS aJ G mu U H
theorem mS.le {κ:Type} [DecidableEq κ] {enc:κ->ξ} {G G':PH} {m:Nat} {S:κ->Tr} {H:PH} (h:mS enc G m S H) (l:G.le G'):mS enc G' m S H:=by obtain ⟨o,mp,h1,h2,h3⟩:=h;exact ⟨o,mp,h1,h2,h3.le l⟩
structure UsE (G:PH) (g:Gr) (ms mu m ban bg b5 b3 b4 b6 b2:Nat):Prop where
 qg:∃v,G bg=ZO (ZP v 37)/\GV G v g
 q5:G b5=ZO (ZP #[.map (ZO m)] 95)
 q3:G b3=ZO (ZP #[ZZ (ZO ⟨ban,0,ZR⟩)] 93)
 q4:G b4=ZO (ZP #[.map (ZO ms)] 95)
 q6:G b6=ZO (ZP #[.map (ZO mu)] 95)
 q2:G.cell ⟨b2,0,ZR⟩=ZO (.map (ZO m))
 an:AnV G ban g
theorem UsE.le {G G':PH} {ban bg b5 b3 b4 b6 b2:Nat} (h:UsE G g ms mu m ban bg b5 b3 b4 b6 b2) (l:G.le G'):UsE G' g ms mu m ban bg b5 b3 b4 b6 b2:=
 ⟨by obtain ⟨v,h1,h2⟩:=h.qg;exact ⟨v,l _ _ h1,h2.le l⟩,l _ _ h.q5,l _ _ h.q3,l _ _ h.q4,l _ _ h.q6,aK l h.q2,h.an.le l⟩
def nD {κ:Type} [DecidableEq κ] (enc:κ->ξ) (G:PH) (m bf:Nat) (S S':κ->Tr) (Bs:PH->List (Ψ)):VR:=λr F'=>∃G' ch,r=Z2 #[]/\G.le G'/\(ch=ZT↔S'≠S)/\St G' F' (mS enc G' m S'::pt bf (ZP #[ZV ch] 4)::Bs G')
theorem JY {ban bg b5 b3 b4 b6 b2 bf:Nat} (hk:OkK g k) (hD:Sxs k D) (lD:Gd.le G) (hl:∀x∈g.ZG,x.right.length<=1000000) (hp:g.ZG.length<=1000000) (E:UsE G g ms mu m ban bg b5 b3 b4 b6 b2) {S:Int->Tr} (hS:Sxs k S) {x0:Nat->Tr}
  (h:St G F [mS aJ G m S,pt bf (ZP #[ZV ZQ] 4),kE g.ZG.length mu G x0,mS aJ Gd ms D]):
  ν 64 #[qS b2 bf,ZZ (ZO ⟨bg,0,ZR⟩),ZZ (ZO ⟨b5,0,ZR⟩),ZZ (ZO ⟨b3,0,ZR⟩),ZZ (ZO ⟨b4,0,ZR⟩),ZZ (ZO ⟨b6,0,ZR⟩)] F
   (nD aJ G m bf S (gb (aF g) D 0 g.ZG S) λG'=>[kE g.ZG.length mu G' (gV (aF g) D 0 g.ZG S),mS aJ Gd ms D]):=by
 obtain ⟨vg,qg,c,n,t,s,p,lv,f,rfl,hs⟩:=E.qg;obtain ⟨c',n',t',s',p',lv',f',q,qa,hs',hq⟩:=E.an.ex;have ep:=hs.p.len;have eq:=hq.len;rw [jr] at eq;refine Wc ?_;unfold QU;refine ⟨_,rfl,_,by rw [aG];exact ld (h.le _ _ qg) rfl,?_⟩;obtain ⟨U0,h⟩:=h.exI 2 rfl;obtain ⟨_,h⟩:=h.prI 2 rfl;have h:St G F [mS aJ G m S,pt bf (ZP #[ZV ZQ] 4),mS aJ G mu U0,mS aJ Gd ms D]:=h
 refine bi (zI · (qS b2 bf) _ _ _ _ p _) g.ZG.length (λi F'=>∃(G':PH) (S' U:Int->Tr) (ch:Bool),G.le G'/\Sxs k S'/\Lt' S S'/\gb (aF g) D 0 g.ZG S=gb (aF g) D i (g.ZG.drop i) S'/\(ch=ZT↔S'≠S)/\
  (∀j:Nat,j<g.ZG.length->gV (aF g) D 0 g.ZG S j=if j<i then U j else gV (aF g) D i (g.ZG.drop i) S' j)/\
  ∃Bs,St G' F' ([mS aJ G' m S',pt bf (ZP #[ZV ch] 4),mS aJ G' mu U,mS aJ Gd ms D]++Bs)) ⟨G,S,U0,ZQ,al _,hS,Lt'.refl S,by rw [Yw],by simp,λj _=>by rw [Υ (by omega),Yw],[],h⟩ ?_
 rintro i F1 N hi ⟨G1,S1,U,ch,l1,hS1,hle,hrd,hch,hus,Bs,h⟩ next;replace h:St G1 F1 [mS aJ G1 m S1,pt bf (ZP #[ZV ch] 4),mS aJ G1 mu U,mS aJ Gd ms D]:=h.pick id (λ_ _ _ _ e=>e) λi hi=>by rw [id,X0 hi]
 have E1:=E.le l1;unfold zI;refine ⟨λhlt=> ?_,λhge=> ?_⟩
 ·have hlt:i<g.ZG.length:=by omega
  have hs1:=hs.le l1;refine h.ix hs1.p (by decide) (by omega) (by omega) λa c6 x hx hrow hc6=>⟨c6,Mem.len hc6,hrow,?_⟩;rw [N5] at hx;have hxm:=XQ hx;have edrop:g.ZG.drop i=x::g.ZG.drop (i+1):=bQ hx;obtain ⟨hu,a1,a2⟩:=qV (D:=D) hk.prs hD hS1 i x;refine h.var (Mem.st hc6) (λb8 G2 F2 l2 q8 h=> ?_) rfl (Mem.len hc6);obtain ⟨r,n8,l8,rfl,hr,hn8,_⟩:=hc6;have l12:=aa l1 l2;have E2:=E1.le l2;have qa2:=l12 _ _ qa;have er:=(hr.le l2).len;refine ⟨_,rfl,_,ld (h.le _ _ E2.q5) rfl,_,ld (h.le _ _ q8) rfl,_,rfl,_,ld (h.le _ _ E2.q3) rfl,_,rfl,_,by rw [aG];exact ld (h.le _ _ qa2) rfl,?_⟩;refine ixc (hq.le l12) (by decide) (by omega) (by omega) λa9 c9 dd hdd hrow9 hc9=>⟨c9,Mem.len hc9,aT h.le hrow9,?_⟩;rw [N5] at hdd;have hdd:dd=dia (aF g i):=by unfold pc at hdd;rw [X2,Yo hlt] at hdd;exact (Yh hdd).symm
  have hc9:DV G2 c9 (dia (aF g i)):=by rw [<- hdd];exact hc9
  have hand:=(hS1 x.left).ap2 (o:=aY) (hk.prs i);have fin:∀{G' F':PH} {y:Γ} {b9:Nat},G2.le G'->DV G' y (dia (ap2 aY (S1 x.left) (aF g i)))->St G' F' [pt b9 (ZP y 31),mS aJ G1 m S1,pt bf (ZP #[ZV ch] 4),mS aJ G1 mu U,mS aJ Gd ms D]->
    kR N (qS b2 bf) (ZO (ZX b5 0 ZR)) (ZO (ZX b3 0 ZR)) (ZO (ZX b4 0 ZR)) (ZO (ZX b6 0 ZR)) (i:Int) b8 p (ZO (ZX b9 0 ZR))
     (nD aJ G m bf S (gb (aF g) D 0 g.ZG S) λG'=>[kE g.ZG.length mu G' (gV (aF g) D 0 g.ZG S),mS aJ Gd ms D]) F':=λ{G' F' y b9} l hy h=>by
   unfold kR;have E3:=E2.le l;have q83:=l _ _ q8;refine ⟨_,rfl,y,hy.size,ac (h.ptAt (i:=0) rfl),_,ld (h.le _ _ q83) rfl,_,rfl,_,ld (h.le _ _ E3.q4) rfl,?_⟩;refine (gU h.front4 (aa lD (aa l12 l)) hk.le hD hand hy (hr.le (aa l2 l)) (hl x hxm)).mono ?_;rintro _ F5 ⟨G5,u,rfl,hu5,l5,h⟩;have h:=h.back4;have E5:=E3.le l5;have q85:=l5 _ _ q83;refine ⟨u,rfl,?_⟩;refine h.put0 (w':=u) hu5.size hy.size hu5.st λF6 h=> ?_;refine ⟨_,rfl,_,ld (h.le _ _ E5.q6) rfl,u,hu5.size,ac (h.ptAt (i:=0) rfl),?_⟩;obtain ⟨o,mp,m1,m2,m3⟩:=h.mS_at (i:=3) rfl;have l15:=aa l2 (aa l l5);refine aX xP m1 m2 (i:Int) (ZU u) λo' ho'=> ?_;have h:=h.mS_set 3 rfl (G1:=G5) (S':=cQ U (i:Int) (fS (aF g) D S1 i x)) ho' ((m3.le l15).put hu5);refine ⟨_,ld (h.le _ _ q85) rfl,?_⟩;refine bi (zH N · (qS b2 bf) (ZO (ZX b5 0 ZR)) (ZO (ZX b3 0 ZR)) (ZX b4 0 ZR) (ZX b6 0 ZR) (ZX b9 0 ZR) p (i:Int) r _) x.right.length
    (λj F'=>∃(G':PH) (S2:Int->Tr) (ch2:Bool),G5.le G'/\Sxs k S2/\Lt' S1 S2/\eH (fS (aF g) D S1 i x) x.right S1=eH (fS (aF g) D S1 i x) (x.right.drop j) S2/\(ch2=ZT↔ch=ZT\/S2≠S1)/\
     St G' F' [mS aJ G' m S2,pt bf (ZP #[ZV ch2] 4),mS aJ G' mu (cQ U (i:Int) (fS (aF g) D S1 i x)),mS aJ Gd ms D,pt b9 (ZP u 31)])
    ⟨G5,S1,ch,al _,hS1,Lt'.refl _,by rw [Yw],by simp,h.rot.imp 0 rfl λ_ _ hH=>hH.le l15⟩ ?_
   rintro j F7 N2 hj ⟨G6,S2,ch2,l6,hS2,hle2,had,hch2,h⟩ next2;unfold zH;refine ⟨λhjl=> ?_,λhjg=> ?_⟩
   ·have hjl:j<x.right.length:=by omega
    refine ixc (hr.le (aa l2 (aa l (aa l5 l6)))) (by decide) (by omega) (by omega) λa8 c8 sy hsy hrow8 hc8=>⟨c8,Mem.len hc8,aT h.le hrow8,?_⟩;rw [N5] at hsy;obtain rfl:c8=sy.arr:=hc8;have edr:x.right.drop j=sy::x.right.drop (j+1):=bQ hsy;refine h.var (by simp [am]) (λb11 G7 F8 l7 q11 h=>⟨_,ld (h.le _ _ q11) rfl,λhyt=> ?_,λhyt=> ?_⟩) rfl rfl
    ·have hyt:sy.t=ZQ:=by simpa using hyt
     have E7:=E5.le (aa l6 l7);refine ⟨_,ld (h.le _ _ q11) rfl,u,hu5.size,ac (h.ptAt (i:=4) rfl),_,_,_,rfl,FY,?_⟩;refine (ua h l7 hk.le hS2 hu (hu5.le (aa l6 l7)) E7.q2 sy.i).mono ?_;rintro _ F9 ⟨G8,ch3,rfl,hch3,l8,h⟩;refine ⟨rfl,?_⟩;unfold vv;rw [aC hjl (by have:=hl x hxm;omega)];refine next2 _ hjl ⟨G8,_,ch3,aa l6 (aa l7 l8),cC hS2 hu,hle2.trans (dK hS2 hu),?_,?_,h.imp 2 rfl λ_ _ hH=>hH.le (aa l7 l8)⟩
     ·rw [had,edr];show eH _ (x.right.drop (j+1)) (if sy.t=ZT then S2 else bx S2 sy.i _)=_;rw [hyt,Υ Y8]
     ·rw [hch3,hch2,or_assoc,iB hS1 hS2 (cC hS2 hu) hle2 (dK hS2 hu)]
    ·have hyt:sy.t=ZT:=by simpa using hyt
     unfold vv;rw [aC hjl (by have:=hl x hxm;omega)];refine next2 _ hjl ⟨G7,S2,ch2,aa l6 l7,hS2,hle2,?_,hch2,(h.imp 2 rfl λ_ _ hH=>hH.le l7).imp 0 rfl λ_ _ hH=>hH.le l7⟩;rw [had,edr];show eH _ (x.right.drop (j+1)) (if sy.t=ZT then S2 else bx S2 sy.i _)=_;rw [hyt,Χ rfl]
   ·have hj:j=x.right.length:=by omega
    subst hj;rw [YB] at had;have had:eH (fS (aF g) D S1 i x) x.right S1=S2:=had;unfold FO;rw [aC hlt];rw [had] at a1 a2;refine next _ hlt ⟨G6,S2,_,ch2,aa l12 (aa l (aa l5 l6)),hS2,hle.trans hle2,?_,?_,λj' hj'=> ?_,[pt b9 (ZP u 31)],h⟩
    ·rw [hrd,edrop];show gb _ _ (i+1) _ (eH (fS (aF g) D S1 i x) x.right S1)=_;rw [had]
    ·rw [hch2,hch,iB hS hS1 hS2 hle hle2]
    ·rw [hus j' hj',edrop];have e3:∀j',gV (aF g) D i (x::g.ZG.drop (i+1)) S1 j'=if j'=i then fS (aF g) D S1 i x else gV (aF g) D (i+1) (g.ZG.drop (i+1)) (eH (fS (aF g) D S1 i x) x.right S1) j':=λ_=>rfl
     rw [e3,had];unfold cQ;by_cases c1:j'<i
     ·rw [Χ c1,Χ (by omega),Υ (by omega)]
     ·by_cases c2:j'=i
      ·rw [Υ c1,Χ c2,Χ (by omega),Χ (by omega)]
      ·rw [Υ c1,Υ c2,Υ (by omega)]
  have mk:∀{G' F':PH} {w y:Γ} {b9:Nat},w.size=2->G2.le G'->DV G' y (dia (ap2 aY (S1 x.left) (aF g i)))->St G' F' [pt b9 (ZP w 31),mS aJ G1 m S1,pt bf (ZP #[ZV ch] 4),mS aJ G1 mu U,mS aJ Gd ms D]->
    aw F' (ZX b9 0 ZR) 2 y λF=>kR N (qS b2 bf) (ZO (ZX b5 0 ZR)) (ZO (ZX b3 0 ZR)) (ZO (ZX b4 0 ZR)) (ZO (ZX b6 0 ZR)) (i:Int) b8 p (ZO (ZX b9 0 ZR))
     (nD aJ G m bf S (gb (aF g) D 0 g.ZG S) λG'=>[kE g.ZG.length mu G' (gV (aF g) D 0 g.ZG S),mS aJ Gd ms D]) F:=λhw l hy h=>h.put0 hy.size hw hy.st λF' h=>fin l hy h
  have hA:∀{G':PH} {w:Γ},G2.le G'->DV G' w (dia (S1 x.left))->ν 35 #[ZU w,ZU c9] G' λr G''=>(∃y,r=Z2 #[ZU y,vi 0]/\DV G'' y (dia (ap2 aY (S1 x.left) (aF g i))))/\G'.le G'':=
   λl hw=>(iA hk.le (hS1 x.left) (hk.prs i) hw (hc9.le l)).mono λr F' ⟨x,a,b,c⟩=>⟨⟨x,a,b⟩,c⟩
  have at9:∀{G' F':PH} {As:List (Ψ)},G2.le G'->St G' F' As->F'.cell (ZW (ZX ban 0 ZR) 9)=ZO (ZS q):=λl h=>by rw [aG];exact ld (h.le _ _ (l _ _ qa2)) rfl
  have a3:∀{G' F':PH} {As:List (Ψ)},G2.le G'->St G' F' As->F'.cell (ZX b3 0 ZR)=ZO (ZZ (ZO ⟨ban,0,ZR⟩)):=λl h=>ld (h.le _ _ (E2.le l).q3) rfl;refine ⟨?_,?_⟩
  ·refine (fw h l2 x.left).mono ?_;rintro _ F3 ⟨G3,w,rfl,hw,l3,h⟩;refine ⟨w,rfl,aT (aa l3 h.le) hrow9,at9 l3 h,a3 l3 h,?_,?_⟩
   ·refine h.run (hA l3 hw) λ_ G4 F4 hr4 l4 h=> ?_;obtain ⟨y,rfl,hy⟩:=hr4;have l34:=aa l3 l4;refine ⟨_,_,rfl,at9 l34 h,a3 l34 h,?_,?_⟩
    ·refine h.runv (bB hy) λG5 F5 l5 h=>⟨_,rfl,at9 (aa l34 l5) h,a3 (aa l34 l5) h,?_⟩;exact h.new λb9 F6 h=>mk rfl (aa l34 l5) (hy.le l5) h
    ·refine h.new λb9 F5 h=> ?_;exact h.runv (bB hy) λG5 F6 l5 h=>⟨_,rfl,at9 (aa l34 l5) h,a3 (aa l34 l5) h,mk rfl (aa l34 l5) (hy.le l5) h⟩
   ·refine h.new λb9 F4 h=> ?_;refine h.run (hA l3 hw) λ_ G4 F5 hr4 l4 h=> ?_;obtain ⟨y,rfl,hy⟩:=hr4;have l34:=aa l3 l4;refine ⟨_,_,rfl,at9 l34 h,a3 l34 h,?_⟩;exact h.runv (bB hy) λG5 F6 l5 h=>⟨_,rfl,at9 (aa l34 l5) h,a3 (aa l34 l5) h,mk rfl (aa l34 l5) (hy.le l5) h⟩
  ·refine h.new λb9 F3 h=> ?_;refine (fw h.swap l2 x.left).mono ?_;rintro _ F4 ⟨G3,w,rfl,hw,l3,h⟩;have h:=h.swap;refine ⟨w,rfl,aT (aa l3 h.le) hrow9,at9 l3 h,a3 l3 h,?_⟩;refine h.run (hA l3 hw) λ_ G4 F5 hr4 l4 h=> ?_;obtain ⟨y,rfl,hy⟩:=hr4;have l34:=aa l3 l4;refine ⟨_,_,rfl,at9 l34 h,a3 l34 h,?_⟩;exact h.runv (bB hy) λG5 F6 l5 h=>⟨_,rfl,at9 (aa l34 l5) h,a3 (aa l34 l5) h,mk rfl (aa l34 l5) (hy.le l5) h⟩
 ·have e:i=g.ZG.length:=by omega
  subst e;rw [YB] at hrd hus;have hrd:gb (aF g) D 0 g.ZG S=S1:=hrd;rw [hrd];refine ⟨G1,ch,rfl,l1,hch,h.imp 2 rfl λH _ hH=>⟨U,λj hj=> ?_,hH⟩⟩;rw [hus j hj,Χ hj]
end
theorem JZ:aE prog 64=ZT:=by kernel_rfl
theorem OJ:aE prog 62=ZT:=by kernel_rfl
theorem St.var1 {G F:PH} {As:List (Ψ)} (h:St G F As) {z v:ξ} {e:TypeId} {K:Nat->Ψ} (k:∀b G' F',G.le G'->G' b=ZO (ZP #[v] e)->St G' F' As->K b F'):∀b,F b=ZR->atF (F.set b (ZP #[z] e)) λF=>sto F (ZX b 0 ZR) v (K b):=by refine h.new λb F1 h=> ?_;refine h.set0 (w':= #[v]) (Z8 rfl) rfl λF2 h=> ?_;exact h.pinb λG' l q h=>k b G' F2 l q h
def Ga (A:List Dia->Prop) (b:Nat) (G:PH):List (Ψ):=[λH=>∃sl ds,A ds/\RL G sl ds/\H b=ZO (ZP #[ZS sl] 39)]
theorem ug {A:List Dia->Prop} {b:Nat} {G F:PH} (h:St G F (Ga A b G)):∃sl ds,A ds/\RL G sl ds/\St G F [pt b (ZP #[ZS sl] 39)]:=by obtain ⟨sl,h⟩:=h.exI 0 rfl;obtain ⟨ds,h⟩:=h.exI 0 rfl;obtain ⟨e1,h⟩:=h.prI 0 rfl;obtain ⟨e2,h⟩:=h.prI 0 rfl;exact ⟨sl,ds,e1,e2,h⟩
def Gb (k:Nat) (g:Gr) (ds:List Dia):Prop:=∃U,BX k g.ZG (aF g) (tre g.fam) g.start U/\ds=fJ U g.ZG.length
section
variable {G F Gd:PH} {g:Gr} {k m mu ms:Nat} {D:Int->Tr}
def Wk (g:Gr) (S:Int->Tr):Prop:=(∀n c,(S n).ev c=ZT->Rch g.ZG (aF g) (tre g.fam) g.start c n)/\∀c,(tre g.fam).ev c=ZT->(S g.start).ev c=ZT
theorem J0 {ban bg b5 b3 b4 b6:Nat} (hk:OkK g k) (hD:bZ k g.ZG (aF g) ZQ D) (lD:Gd.le G) (hl:∀x∈g.ZG,x.right.length<=1000000) (hp:g.ZG.length<=1000000)
  (E:∀G' b2,G.le G'->G'.cell ⟨b2,0,ZR⟩=ZO (.map (ZO m))->UsE G' g ms mu m ban bg b5 b3 b4 b6 b2):
  OH G k m 64 #[] #[ZZ (ZO ⟨bg,0,ZR⟩),ZZ (ZO ⟨b5,0,ZR⟩),ZZ (ZO ⟨b3,0,ZR⟩),ZZ (ZO ⟨b4,0,ZR⟩),ZZ (ZO ⟨b6,0,ZR⟩)]
   (g.ZG.flatMap λx=>x.right.map (·.i)) (Wk g) (gb (aF g) D 0 g.ZG) (gV (aF g) D 0 g.ZG) (λG' x=>[kE g.ZG.length mu G' x,mS aJ Gd ms D]) where
 cb:=JZ
 sx S hS hI:=by obtain ⟨a1,a2⟩:=iv hk.prs hD.sx g.ZG 0 hS;exact ⟨a1,⟨xL hk.prs hD g.ZG 0 (λj x hj=>by rw [X5];exact hj) hS hI.1,λc hc=>a2 _ c (hI.2 c hc)⟩,a2,λn hn=>BY hn⟩
 run G' F' S x b2 b4 l hS hI hc h:=by
  have e:∀(a:ξ) (v:Γ),(#[]++ #[a]++v:Γ)= #[a]++v:=λa v=>by simp
  rw [e];exact JY hk hD.sx (aa lD l) hl hp (E G' b2 l hc) hS h
theorem vH {v:Γ} {ban b1 b2:Nat} (hk:OkK g k) (hl:∀x∈g.ZG,x.right.length<=1000000) (hp:g.ZG.length<=1000000) (hAn:AnV G ban g) (q1:G b1=ZO (ZP v 37)) (hg:GV G v g)
  (h:St G F [pt b2 (ZP #[ZS Z3] 39)]):ν 62 #[ZZ (ZO ⟨ban,0,ZR⟩),ZZ (ZO ⟨b1,0,ZR⟩),ZZ (ZO ⟨b2,0,ZR⟩)] F λr F'=>∃G',r=Z2 #[]/\G.le G'/\St G' F' (Ga (Gb k g) b2 G'):=by
 have hg0:=hg;obtain ⟨c,n,t,s,p,lv,f,rfl,hgs⟩:=hg;have ep:=hgs.p.len;refine Wa ?_;unfold QS;refine h.newG λb3 G1 F1 l1 q3 _ h=>⟨_,ld (h.le _ _ q3) rfl,?_⟩;refine (cU hk hl hp (hAn.le l1) h).mono ?_;rintro _ F2 ⟨G2,ms,D,rfl,l2,hD,h⟩;refine ⟨_,rfl,?_⟩;refine h.var1 λb4 G3 F3 l3 q4 h=> ?_;refine h.new λm F4 h=> ?_;have h:=h.toMap aJ;have l13:=aa l1 (aa l2 l3);have q13:=l13 _ _ q1;have hk0:=hk.fam;have hfam:DV G3 #[n.v,vi g.fam.2] (dia (tre g.fam)):=by rw [<- hk.fam.2];exact DV.mk (hgs.n.le l13)
 refine ⟨_,rfl,_,by rw [aG];exact ld (h.le _ _ q13) rfl,#[n.v,vi g.fam.2],rfl,by rw [aG];exact iM (h.le _ _ q13) rfl,?_⟩;obtain ⟨o,mp,m1,m2,m3⟩:=h.mS_at (i:=0) rfl;refine aX xP m1 m2 g.start (ZU #[n.v,vi g.fam.2]) λo' ho'=> ?_;have h:=h.mS_set 0 rfl (G1:=G3) (S':=cQ (λ_=>ZL ZQ) g.start (tre g.fam)) ho' (m3.put hfam);refine h.var1 λb5 G4 F5 l4 q5 h=> ?_;refine h.new λmu F6 h=> ?_;have h:=h.toMap aJ;refine h.var1 λb6 G5 F7 l5 q6 h=> ?_;refine ⟨_,ld (h.le _ _ (l5 _ _ q5)) rfl,?_⟩;have l35:=aa l3 (aa l4 l5);have lD:G2.le G5:=l35;have h0:St G5 F7 ([mS aJ G5 m (cQ (λ_=>ZL ZQ) g.start (tre g.fam)),kE g.ZG.length mu G5 (λ_=>ZL ZQ),mS aJ G2 ms D]++[pt b2 (ZP #[ZS Z3] 39)]):=by have h1:=h.swap.imp 0 rfl λ_ _ hH=>hH.le (aa l4 l5);exact h1.imp (A':=kE g.ZG.length mu G5 (λ_=>ZL ZQ)) 1 rfl λH _ hH=>⟨_,λ_ _=>rfl,hH.le l5⟩
 have hS0:Sxs k (cQ (λ_=>ZL ZQ) g.start (tre g.fam)):=Sxs.upd (λ_=>Sx.ZL k ZQ) hk.fam.1;have l1':=aa l13 (aa l4 l5)
 have hrn:=J0 (G:=G5) (Gd:=G2) (m:=m) (mu:=mu) (ms:=ms) (ban:=ban) (bg:=b1) (b5:=b5) (b3:=b3) (b4:=b4) (b6:=b6) hk hD lD hl hp (λG' b2 l hc=>
  ⟨⟨_,(aa l1' l) _ _ q1,hg0.le (aa l1' l)⟩,l _ _ (l5 _ _ q5),l _ _ (l35 _ _ (l2 _ _ q3)),l _ _ (l5 _ _ (l4 _ _ q4)),l _ _ q6,hc,hAn.le (aa l1' l)⟩)
 refine (h0.callL (P:=λr _=>r=Z2 #[]) (Bs':=λ_ G'=>[λH=>∃S U:Int->Tr,(BV k g.ZG (aF g) (tre g.fam) g.start S/\(∀i:Nat,i<g.ZG.length->U i=gV (aF g) D 0 g.ZG S i)/\gb (aF g) D 0 g.ZG S=S)/\mS aJ G' mu U H]) λF1 h1=> ?_).mono ?_
 ·have up:∀(G' G'' F':PH) (x:Nat->Tr) (S:Int->Tr),G'.le G''->St G'' F' (mS aJ G' m S::[kE g.ZG.length mu G' x,mS aJ G2 ms D])->St G'' F' (mS aJ G'' m S::[kE g.ZG.length mu G'' x,mS aJ G2 ms D]):=λG' G'' F' x S l h=>
   (h.imp 0 rfl λH _ hH=>hH.le l).imp 1 rfl λH _ ⟨U,e,hH⟩=>⟨U,e,hH.le l⟩
  refine (uc (As:=λG' x=>[kE g.ZG.length mu G' x,mS aJ G2 ms D]) hrn up (x:=λ_=>ZL ZQ) hS0 ⟨λi c hc=> ?_,λc hc=> ?_⟩ h1).mono ?_
  ·unfold cQ at hc;split at hc
   ·rename_i e;rw [e];exact .start hc
   ·cases hc
  ·unfold cQ;rw [Χ rfl];exact hc
  ·rintro _ F8 ⟨G8,S,rfl,l8,hS,hI,he,h⟩;have hR:=FC hk.prs hD hS hI.1 hI.2 he;have h:=h.tail.hd
   exact ⟨G8,rfl,l8,h.imp (A':=λH=>∃S U:Int->Tr,(BV k g.ZG (aF g) (tre g.fam) g.start S/\(∀i:Nat,i<g.ZG.length->U i=gV (aF g) D 0 g.ZG S i)/\gb (aF g) D 0 g.ZG S=S)/\mS aJ G8 mu U H) 0 rfl
    λH _ ⟨U,e,hH⟩=>⟨S,U,⟨hR,e,he⟩,hH⟩⟩
 rintro _ F9 ⟨G9,rfl,l9,h⟩;obtain ⟨S,h⟩:=h.exI 0 rfl;obtain ⟨U,h⟩:=h.exI 0 rfl;obtain ⟨⟨hR,hU,he⟩,h⟩:=h.prI 0 rfl;have hUx:∀(i:Nat) (x:Pr),g.ZG[i]? =ZO x->U i=fS (aF g) D S i x:=λi x hi=>by have:=uf hk.prs hD.sx g.ZG 0 hR.sx he i x hi;rw [X5] at this;rw [hU i (XN.1 hi).1,this]
 have hUs:∀i:Nat,i<g.ZG.length->Sx k (U i):=λi hi=>by rw [hUx i _ (N6 hi)];exact (eg hk.prs hD.sx hR.sx i _).1
 refine ⟨rfl,_,ld (h.le _ _ (l9 _ _ q6)) rfl,?_⟩;refine ⟨_,by rw [aG];exact ld (h.le _ _ (l9 _ _ (l5 _ _ (l4 _ _ q13)))) rfl,?_⟩;dsimp only;rw [ep];refine (fz h hk.le g.ZG.length hUs hp).mono ?_;rintro _ F10 ⟨G10,sl,rfl,l10,hsl,h⟩;refine ⟨_,rfl,_,rfl,?_⟩;refine h.set0 (w':= #[ZS sl]) (Z8 rfl) rfl λF11 h=>⟨G10,rfl,aa l1' (aa l9 l10),?_⟩;refine h.imp 0 rfl λH _ hH=>⟨sl,_,⟨λi=>if i<g.ZG.length then U i else ZL ZQ,⟨λi=> ?_,λi c hi=> ?_⟩,?_⟩,hsl,hH⟩
 ·split
  ·rename_i hi;exact hUs i hi
  ·exact Sx.ZL k ZQ
 ·rw [Χ hi,hUx i _ (N6 hi)];exact JS hk.prs hD hR (N6 hi) c
 ·unfold bv fJ;refine YR λi hi=> ?_;dsimp only;rw [if_pos (Yv.1 hi)]
theorem qW {v:Γ} (hT:Tab F) (hg:GV F v g) (hz:Sz g) (hk:OkK g k) (hl:∀x∈g.ZG,x.right.length<=1000000) (hp:g.ZG.length<=1000000):
  ν 21 #[ZU v] F λr F'=>(∃sl ds,r=Z2 #[ZS sl,vi 0]/\Gb k g ds/\RL F' sl ds)/\F.le F':=by
 refine V0 ?_;unfold QG;refine (St.start F).newG λb1 G1 F1 l1 q1 _ h=>h.new λb2 F2 h=>⟨v,hg.size,ac (h.le _ _ q1),?_⟩;refine (eJ (kr:=62) (fst:= #[]) (cap:= #[ZZ (ZO ⟨b1,0,ZR⟩),ZZ (ZO ⟨b2,0,ZR⟩)]) (Bs:=Ga (Gb k g) b2) (hT.le l1) (hg.le l1) hz hk hl hp h OJ λG' ban F' l hAn h=> ?_).mono ?_
 ·rw [xQ];exact vH hk hl hp hAn (l _ _ q1) ((hg.le l1).le l) h
 rintro _ F3 ⟨rfl,G3,l3,h⟩;obtain ⟨sl,ds,h1,h2,h⟩:=ug h;refine ⟨_,rfl,sl,h.ld0 rfl,?_⟩;refine h.set0 (w':= #[ZS sl]) (Z8 rfl) rfl λF4 h=>⟨_,h.ld0 rfl,⟨sl,ds,rfl,h1,h2.le h.le⟩,aa l1 (aa l3 h.le)⟩
end
section
variable {G G0 F:PH} {As:List (Ψ)} {m:Nat} {k:Nat}
theorem uh {S:Int×Int->Tr} {b2 b4:Nat} {ch:Bool} {w:Γ} {d:Tr} (h:St G F (mS bV G0 m S::pt b4 (ZP #[ZV ch] 4)::As)) (l0:G0.le G) (hk:k<=6) (hS:Sxs k S) (hx:Sx k d) (hd:DV G w (dia d))
  (h2:G.cell ⟨b2,0,ZR⟩=ZO (.map (ZO m))) (n:Int×Int):
  ν 125 #[ZU (wG n),ZU w,ZZ (ZO ⟨b2,0,ZR⟩),ZZ (ZO ⟨b4,0,ZR⟩)] F λr F'=>∃G' ch',r=Z2 #[]/\(ch'=ZT↔ch=ZT\/bx S n d≠S)/\G.le G'/\
   St G' F' (mS bV G' m (bx S n d)::pt b4 (ZP #[ZV ch'] 4)::As):=by
 refine Q6 ?_;unfold Ml;have up:∀{G1 G2 F':PH} {S':Int×Int->Tr} {As':List (Ψ)},St G2 F' (mS bV G1 m S'::As')->G1.le G2->St G2 F' (mS bV G2 m S'::As'):=λ{G1 G2 F' S' As'} h l=>h.imp 0 rfl λH _ ⟨o,mp,a1,a2,a3⟩=>⟨o,mp,a1,a2,a3.le l⟩;obtain ⟨s,rfl,_⟩:=id hd;refine h.newG λbk Gk Fk lk qk _ h=> ?_;have hd:=hd.le lk;have h2:=aK lk h2;have l0:=aa l0 lk;refine h.newG λb5 G1 F1 l1 q5 _ h=>⟨_,ld (h.le _ _ q5) rfl,λh0=> ?_,λh0=> ?_⟩
 ·have e:=(dW hx.1).1 h0;refine ⟨G1,ch,rfl,?_,aa lk l1,?_⟩
  ·rw [e,dC hS];simp
  ·rw [e,dC hS];exact up h (aa l0 l1)
 ·refine ⟨_,rfl,_,aK (aa l1 h.le) h2,_,rfl,ac (h.le _ _ (l1 _ _ qk)),?_⟩;refine (qP h (aa l0 l1) n).mono ?_;rintro _ F2 ⟨G2,u,rfl,hu,l2,h⟩;refine ⟨u,rfl,?_⟩;refine h.var hu.st (λb6 G3 F3 l3 q6 h=> ?_) rfl hu.size;have l13:=aa l2 l3;refine ⟨u,hu.size,ac (h.le _ _ q6),_,rfl,ac (h.le _ _ (l13 _ _ q5)),?_⟩;refine h.run (P:=λr G'=>∃x,r=Z2 #[ZU x,vi 0]/\DV G' x (dia (ap2 oOr (S n) d))) ((vF hk (hS n) hx (hu.le l3) (hd.le (aa l1 l13))).mono λr F' ⟨x,a,b,c⟩=>⟨⟨x,a,b⟩,c⟩) λ_ G4 F4 hr l4 h=> ?_;obtain ⟨x,rfl,hxx⟩:=hr;refine ⟨_,_,rfl,?_⟩;refine h.runv (bB hxx) λG5 F5 l5 h=>⟨_,rfl,?_⟩;refine h.var hxx.st (λb7 G6 F6 l6 q7 h=> ?_) rfl hxx.size;have l36:=aa l4 (aa l5 l6);refine ⟨u,hu.size,ac (h.le _ _ (l36 _ _ q6)),x,hxx.size,ac (h.le _ _ q7),?_⟩;refine h.runv (jY (hu.le (aa l3 l36)) (hxx.le (aa l5 l6)) (p7 ((hS n).small hk))) λG7 F7 l7 h=>⟨_,rfl,?_⟩;have l17:=aa l13 (aa l36 l7);have kk:=(hS n).ap2 (o:=oOr) hx;refine ⟨λhne=> ?_,λhe=> ?_⟩
  ·have hne:ap2 oOr (S n) d≠S n:=λe=>by rw [e,ζ rfl] at hne;cases hne
   refine ⟨_,aK (aa (aa l1 l17) h.le) h2,_,rfl,ac (h.le _ _ (l17 _ _ (l1 _ _ qk))),x,hxx.size,ac (h.le _ _ (l7 _ _ q7)),?_⟩;obtain ⟨o,mp,m1,m2,m3⟩:=h.mS_at (i:=0) rfl;refine aX FW m1 m2 n (ZU x) λo' ho'=> ?_;have hxx7:=hxx.le (aa l5 (aa l6 l7));have h:=h.mS_set 0 rfl (G1:=G7) (S':=bx S n d) ho' ((m3.le (aa (aa l0 l1) l17)).put hxx7);refine ⟨_,rfl,h.set1 (w':= #[ZV ZT]) (Z8 rfl) rfl λF8 h=> ?_⟩;exact ⟨G7,ZT,rfl,⟨λ_=> .inr λe=>hne (jO.1 e),λ_=>rfl⟩,aa lk (aa l1 l17),h⟩
  ·have e:ap2 oOr (S n) d=S n:=by
    have:decide (dia (S n)=dia (ap2 oOr (S n) d))=ZT:=by simpa using he
    exact (mY (hS n).1 kk.1 (ε this)).symm
   have e2:=jO.2 e;refine ⟨G7,ch,rfl,?_,aa lk (aa l1 l17),?_⟩
   ·rw [e2];simp
   ·rw [e2];exact up h (aa (aa l0 l1) l17)
end
theorem Gc:aE prog 125=ZT:=by kernel_rfl
section
variable {G G0 F:PH} {m k:Nat} {σ:Type}
structure Ra (G:PH) (k m:Nat) (kr:Nat) (fst cap:Γ) (keys:List (Int×Int)) (Inv:(Int×Int->Tr)->Prop) (rnd:(Int×Int->Tr)->Int×Int->Tr) (aux:(Int×Int->Tr)->σ) (As:PH->σ->List (Ψ)):Prop where
 cb:aE prog kr=ZT
 sx:∀S,Sxs k S->Inv S->Sxs k (rnd S)/\Inv (rnd S)/\Lt' S (rnd S)/\∀n,rnd S n≠S n->n∈keys
 run:∀G' F' S x b2 b4,G.le G'->Sxs k S->Inv S->G'.cell ⟨b2,0,ZR⟩=ZO (.map (ZO m))->St G' F' (mS bV G' m S::pt b4 (ZP #[ZV ZQ] 4)::As G' x)->
  aj prog kr (fst++ #[.func (.func 125) #[] #[ZZ (ZO ⟨b2,0,ZR⟩),ZZ (ZO ⟨b4,0,ZR⟩)]]++cap) F' λr F''=>∃G'' ch,r=Z2 #[]/\G'.le G''/\(ch=ZT↔rnd S≠S)/\
   St G'' F'' (mS bV G'' m (rnd S)::pt b4 (ZP #[ZV ch] 4)::As G'' (aux S))
theorem D3 {kr:Nat} {fst cap:Γ} {keys:List (Int×Int)} {Inv:(Int×Int->Tr)->Prop} {rnd:(Int×Int->Tr)->Int×Int->Tr} {aux:(Int×Int->Tr)->σ} {As:PH->σ->List (Ψ)} (Rn:Ra G k m kr fst cap keys Inv rnd aux As)
  (up:∀G' G'' F' x S,G'.le G''->St G'' F' (mS bV G' m S::As G' x)->St G'' F' (mS bV G'' m S::As G'' x)) {S:Int×Int->Tr} {x:σ} (hS:Sxs k S) (hI:Inv S) (h:St G F (mS bV G m S::As G x)):
  ν 73 #[.map (ZO m),.func (.func kr) fst cap] F λr F'=>∃G' S',r=Z2 #[]/\G.le G'/\Sxs k S'/\Inv S'/\rnd S'=S'/\St G' F' (mS bV G' m S'::As G' (aux S')):=by
 refine Wi ?_;unfold Q0;refine h.newG λb2 G1 F1 l1 q2 _ h=> ?_;have h:=up G G1 F1 x S l1 h;refine h.new λb4 F2 h=> ?_;refine h.set0 (w':= #[ZV ZT]) (Z8 rfl) rfl λF3 h=> ?_
 refine ⟨λq p F'=>∃(b:Nat) (G':PH) (S':Int×Int->Tr) (y:σ) (ch:Bool),p=ZO (ZX b 0 ZR)/\q=mu k keys S'+(if ch=ZT then 1 else 0)/\G1.le G'/\Sxs k S'/\Inv S'/\(ch=ZQ->rnd S'=S'/\y=aux S')/\
  St G' F' (pt b (ZP #[ZV ch] 4)::mS bV G' m S'::As G' y),mu k keys S+1,⟨b4,G1,S,x,ZT,rfl,rfl,al _,hS,hI,λhc=>(by cases hc),h⟩,?_⟩
 rintro q p F4 ⟨b,G2,S2,y,ch,rfl,rfl,l2,hS2,hI2,hc2,h⟩;unfold FT;refine ⟨_,rfl,ch,h.ld0 rfl,λht=> ?_,λhf=> ?_⟩
 ·subst ht;refine h.set0 (w':= #[ZV ZQ]) (Z8 rfl) rfl λF5 h=>⟨kr,fst,cap,rfl,Rn.cb,?_⟩;obtain ⟨s1,s2,s3,s4⟩:=Rn.sx S2 hS2 hI2;refine (Rn.run G2 F5 S2 y b2 b (aa l1 l2) hS2 hI2 (ld (l2 _ _ q2) rfl) h.swap).mono ?_;rintro _ F6 ⟨G3,ch',rfl,l3,hch,h⟩;refine ⟨rfl,ch',h.ld1 rfl,?_⟩;have h:=h.swap;refine h.new λb5 F7 h=> ?_;refine h.set0 (w':= #[ZV ch']) (Z8 rfl) rfl λF8 h=> ?_;refine ⟨mu k keys (rnd S2)+(if ch'=ZT then 1 else 0),?_,b5,G3,rnd S2,aux S2,ch',rfl,rfl,aa l2 l3,s1,s2,λhf=> ?_,h.swap.tail.swap.swap⟩
  ·obtain ⟨m1,m2⟩:=xJ hS2 s1 s3 keys;rw [Χ rfl];by_cases hc:ch'=ZT
   ·rw [Χ hc];have hne:=hch.1 hc;obtain ⟨n,hn⟩:∃n,rnd S2 n≠S2 n:=Classical.not_forall.1 λha=>hne (funext ha);have:=m2 n (s4 n hn) (Ne.symm hn);omega
   ·rw [Υ hc];omega
  ·have e:rnd S2=S2:=Classical.not_not.1 λhne=>by rw [hch.2 hne] at hf;cases hf
   exact ⟨by rw [e,e],by rw [e]⟩
 ·subst hf;obtain ⟨e1,e2⟩:=hc2 rfl;exact ⟨G2,S2,rfl,aa l1 l2,hS2,hI2,e1,by rw [<- e2];exact h.tail⟩
end
abbrev ui (b2 b4:Nat):Value:=.func (.func 125) #[] #[ZZ (ZO ⟨b2,0,ZR⟩),ZZ (ZO ⟨b4,0,ZR⟩)]
def dz (n:Nat):Φ:=(List.range n).map λi:Nat=>(i:Int)
theorem qX {n i:Nat} (h:i<n):(dz n)[i]? =ZO (i:Int):=by unfold dz;rw [X2,Yo h];rfl
theorem Ge (n:Nat):(dz n).length=n:=by unfold dz;rw [XW,Yq]
theorem tS {a:Tr} (ha:a.ok):ap2 aY a (ZL ZQ)=ZL ZQ:=dI (bq (b:=ZL ZQ) ha trivial).1 trivial λc=>by rw [(bq (b:=ZL ZQ) ha trivial).2];exact Bool.and_false _
section
variable {k:Nat} {N:Int->Tr} {ts:Φ} {b:Int}
theorem oF (a:Int):∀(ts:Φ) {S:Int×Int->Tr},Sxs k S->eN (ZL ZQ) a b ts S=S
 |[],S,_=>rfl
 |t::ts,S,hS=>by unfold eN;rw [gN (hS _).1,dC hS];exact oF a ts hS
theorem qY (hN:Sxs k N):∀(r:List Sy) {S:Int×Int->Tr},Sxs k S->fU N ts b (ZL ZQ) r S=S
 |[],S,_=>rfl
 |s::r,S,hS=>by
  unfold fU;split
  ·exact dC hS _
  ·rw [oF s.i ts hS,gN (hN _).1];exact qY hN r hS
end
section
variable {G F Gd Gn:PH} {g:Gr} {k m mn md:Nat} {N D:Int->Tr}
structure FsE (G:PH) (g:Gr) (mn md m ban bg b3 b5 b6 b4 b2:Nat):Prop where
 qg:∃v,G bg=ZO (ZP v 37)/\GV G v g
 q3:G b3=ZO (ZP #[ZZ (ZO ⟨ban,0,ZR⟩)] 93)
 q5:G b5=ZO (ZP #[.map (ZO md)] 95)
 q6:G b6=ZO (ZP #[.map (ZO m)] 113)
 q4:G b4=ZO (ZP #[.map (ZO mn)] 95)
 q2:G.cell ⟨b2,0,ZR⟩=ZO (.map (ZO m))
 an:AnV G ban g
theorem FsE.le {G G':PH} {ban bg b3 b5 b6 b4 b2:Nat} (h:FsE G g mn md m ban bg b3 b5 b6 b4 b2) (l:G.le G'):FsE G' g mn md m ban bg b3 b5 b6 b4 b2:=
 ⟨by obtain ⟨v,h1,h2⟩:=h.qg;exact ⟨v,l _ _ h1,h2.le l⟩,l _ _ h.q3,l _ _ h.q5,l _ _ h.q6,l _ _ h.q4,aK l h.q2,h.an.le l⟩
theorem J1 {ban bg b3 b5 b6 b4 b2 bf:Nat} (hk:OkK g k) (hN:Sxs k N) (hD:Sxs k D) (lN:Gn.le G) (lD:Gd.le G) (hl:∀x∈g.ZG,x.right.length<=1000000) (hp:g.ZG.length<=1000000) (ht:g.ZI.length<=1000000)
  (E:FsE G g mn md m ban bg b3 b5 b6 b4 b2) {S:Int×Int->Tr} (hS:Sxs k S) (h:St G F [mS bV G m S,pt bf (ZP #[ZV ZQ] 4),mS aJ Gn mn N,mS aJ Gd md D]):
  ν 74 #[ui b2 bf,ZZ (ZO ⟨bg,0,ZR⟩),ZZ (ZO ⟨b3,0,ZR⟩),ZZ (ZO ⟨b5,0,ZR⟩),ZZ (ZO ⟨b6,0,ZR⟩),ZZ (ZO ⟨b4,0,ZR⟩)] F
   (nD bV G m bf S (iw (aF g) N D (dz g.ZI.length) 0 g.ZG S) λ_=>[mS aJ Gn mn N,mS aJ Gd md D]):=by
 obtain ⟨vg,qg,c,n,t,s,p,lv,f,rfl,hs⟩:=E.qg;obtain ⟨c',n',t',s',p',lv',f',q,qa,hs',hq⟩:=E.an.ex;have ep:=hs.p.len;have et:=hs.t.len;have eq:=hq.len;rw [jr] at eq;refine Wj ?_;unfold Q1;refine ⟨_,rfl,_,by rw [aG];exact ld (h.le _ _ qg) rfl,?_⟩
 refine bi (zQ · (ui b2 bf) (ZX bg 0 ZR) _ _ _ _ p _) g.ZG.length (λi F'=>∃(G':PH) (S':Int×Int->Tr) (ch:Bool),G.le G'/\Sxs k S'/\Lt' S S'/\iw (aF g) N D (dz g.ZI.length) 0 g.ZG S=iw (aF g) N D (dz g.ZI.length) i (g.ZG.drop i) S'/\
  (ch=ZT↔S'≠S)/\∃Bs,St G' F' ([mS bV G' m S',pt bf (ZP #[ZV ch] 4),mS aJ Gn mn N,mS aJ Gd md D]++Bs)) ⟨G,S,ZQ,al _,hS,Lt'.refl S,by rw [Yw],by simp,[],h⟩ ?_
 rintro i F1 N1 hi ⟨G1,S1,ch,l1,hS1,hle,hrd,hch,Bs,h⟩ next;replace h:St G1 F1 [mS bV G1 m S1,pt bf (ZP #[ZV ch] 4),mS aJ Gn mn N,mS aJ Gd md D]:=h.pick id (λ_ _ _ _ e=>e) λi hi=>by rw [id,X0 hi]
 have E1:=E.le l1;unfold zQ;refine ⟨λhlt=> ?_,λhge=> ?_⟩
 ·have hlt:i<g.ZG.length:=by omega
  have hs1:=hs.le l1;refine h.ix hs1.p (by decide) (by omega) (by omega) λa c6 x hx hrow hc6=>⟨c6,Mem.len hc6,hrow,?_⟩;rw [N5] at hx;have hxm:=XQ hx;have hlx:=hl x hxm;have edrop:g.ZG.drop i=x::g.ZG.drop (i+1):=bQ hx;obtain ⟨hd0,_⟩:=bC hD x.right (hk.prs i);refine h.var (Mem.st hc6) (λb8 G2 F2 l2 q8 h=> ?_) rfl (Mem.len hc6);obtain ⟨r,n8,l8,rfl,hr,hn8,_⟩:=hc6;have l12:=aa l1 l2;have E2:=E1.le l2;have qa2:=l12 _ _ qa;have er:=(hr.le l2).len;have at9:∀{G' F':PH} {As:List (Ψ)},G2.le G'->St G' F' As->F'.cell (ZW (ZX ban 0 ZR) 9)=ZO (ZS q):=λl h=>by rw [aG];exact ld (h.le _ _ (l _ _ qa2)) rfl
  have a3:∀{G' F':PH} {As:List (Ψ)},G2.le G'->St G' F' As->F'.cell (ZX b3 0 ZR)=ZO (ZZ (ZO ⟨ban,0,ZR⟩)):=λl h=>ld (h.le _ _ (E2.le l).q3) rfl;refine ⟨_,rfl,_,a3 (al _) h,_,rfl,_,at9 (al _) h,?_⟩;refine ixc (hq.le l12) (by decide) (by omega) (by omega) λa9 c9 dd hdd hrow9 hc9=>⟨c9,Mem.len hc9,aT h.le hrow9,?_⟩;rw [N5] at hdd;have hdd:dd=dia (aF g i):=by unfold pc at hdd;rw [X2,Yo hlt] at hdd;exact (Yh hdd).symm
  have hc9:DV G2 c9 (dia (aF g i)):=by rw [<- hdd];exact hc9
  refine ⟨_,ld (h.le _ _ q8) rfl,_,rfl,_,ld (h.le _ _ E2.q5) rfl,?_⟩;have fin1:∀{G' F':PH} {S2:Int×Int->Tr} {ch2:Bool} {Bs:List (Ψ)},G2.le G'->Sxs k S2->Lt' S1 S2->fU N (dz g.ZI.length) x.left (dL D (aF g i) x.right) x.right S1=S2->(ch2=ZT↔ch=ZT\/S2≠S1)->
    St G' F' ([mS bV G' m S2,pt bf (ZP #[ZV ch2] 4),mS aJ Gn mn N,mS aJ Gd md D]++Bs)->
    qO N1 (ui b2 bf) (ZX bg 0 ZR) (ZO (ZX b3 0 ZR)) (ZO (ZX b5 0 ZR)) (ZO (ZX b6 0 ZR)) (ZO (ZX b4 0 ZR)) p (i:Int)
     (nD bV G m bf S (iw (aF g) N D (dz g.ZI.length) 0 g.ZG S) λ_=>[mS aJ Gn mn N,mS aJ Gd md D]) F':=λ{G' F' S2 ch2 Bs} l hS2 hle2 he hch2 h=>by
   unfold qO;rw [aC hlt];refine next _ hlt ⟨G',S2,ch2,aa l12 l,hS2,hle.trans hle2,?_,?_,Bs,h⟩
   ·rw [hrd,edrop];show iw _ _ _ _ (i+1) _ (fU N (dz g.ZI.length) x.left (dL D (aF g i) x.right) x.right S1)=_;rw [he]
   ·rw [hch2,hch,iB hS hS1 hS2 hle hle2]
  have fin:∀{G' F':PH} {y:Γ} {b9:Nat},G2.le G'->DV G' y (dia (dL D (aF g i) x.right))->St G' F' [mS bV G1 m S1,pt bf (ZP #[ZV ch] 4),mS aJ Gn mn N,mS aJ Gd md D,pt b9 (ZP y 31)]->
    vA N1 (ui b2 bf) (ZX bg 0 ZR) (ZO (ZX b3 0 ZR)) (ZO (ZX b5 0 ZR)) (ZO (ZX b6 0 ZR)) (ZO (ZX b4 0 ZR)) b8 p (i:Int) (ZO (ZX b9 0 ZR))
     (nD bV G m bf S (iw (aF g) N D (dz g.ZI.length) 0 g.ZG S) λ_=>[mS aJ Gn mn N,mS aJ Gd md D]) F':=λ{G' F' y b9} l hy h=>by
   unfold vA;refine ⟨_,ld (h.le _ _ (l _ _ q8)) rfl,?_⟩;refine bi (zO N1 · (ui b2 bf) (ZX bg 0 ZR) (ZO (ZX b3 0 ZR)) (ZO (ZX b5 0 ZR)) (ZO (ZX b6 0 ZR)) (ZO (ZX b4 0 ZR)) b8 (ZO (ZX b9 0 ZR)) p (i:Int) r _) x.right.length
    (λj F'=>∃(G':PH) (S2:Int×Int->Tr) (ch2:Bool) (d:Tr) (y:Γ),G2.le G'/\Sxs k S2/\Lt' S1 S2/\Sx k d/\DV G' y (dia d)/\fU N (dz g.ZI.length) x.left (dL D (aF g i) x.right) x.right S1=fU N (dz g.ZI.length) x.left d (x.right.drop j) S2/\
     (ch2=ZT↔ch=ZT\/S2≠S1)/\St G' F' [mS bV G' m S2,pt bf (ZP #[ZV ch2] 4),mS aJ Gn mn N,mS aJ Gd md D,pt b9 (ZP y 31)])
    ⟨G',S1,ch,_,y,l,hS1,Lt'.refl _,hd0,hy,by rw [Yw],by simp,h.imp 0 rfl λ_ _ hH=>hH.le (aa l2 l)⟩ ?_
   rintro j F3 N2 hj ⟨G3,S2,ch2,d,y,l3,hS2,hle2,hd,hy,hfi,hch2,h⟩ next2;unfold zO;refine ⟨λhjl=> ?_,λhjg=> ?_⟩
   ·have hjl:j<x.right.length:=by omega
    refine ixc (hr.le (aa l2 l3)) (by decide) (by omega) (by omega) λa8 c8 sy hsy hrow8 hc8=>⟨c8,Mem.len hc8,aT h.le hrow8,?_⟩;rw [N5] at hsy;obtain rfl:c8=sy.arr:=hc8;have edr:x.right.drop j=sy::x.right.drop (j+1):=bQ hsy;rw [edr] at hfi;refine h.var (by simp [am]) (λb11 G4 F4 l4 q11 h=>⟨_,rfl,?_⟩) rfl rfl;have l34:=aa l3 l4;have hy4:=hy.le l4;obtain ⟨sd,ey,hsd⟩:=id hy;refine ⟨_,by rw [aG];exact ld (h.ptAt (i:=4) rfl) (by rw [ey];rfl),λh0=> ?_,λh0=> ?_⟩
    ·have e:=(dW hd.1).1 h0;refine fin1 (Bs:=[pt b9 (ZP y 31)]) l34 hS2 hle2 ?_ hch2 (h.imp 0 rfl λ_ _ hH=>hH.le l4);rw [hfi,e];exact qY hN _ hS2
    ·refine ⟨_,ld (h.le _ _ q11) rfl,λhyt=> ?_,λhyt=> ?_⟩
     ·have hyt:sy.t=ZT:=hyt;refine ⟨_,ld (h.le _ _ (l34 _ _ q8)) rfl,_,ld (h.le _ _ q11) rfl,y,hy.size,ac (h.ptAt (i:=4) rfl),_,_,_,rfl,Gc,?_⟩;refine (uh h l4 hk.le hS2 hd hy4 (E2.le l34).q2 (x.left,sy.i)).mono ?_;rintro _ F5 ⟨G5,ch3,rfl,hch3,l5,h⟩;refine ⟨rfl,?_⟩;refine fin1 (Bs:=[pt b9 (ZP y 31)]) (aa l34 l5) (cC hS2 hd) (hle2.trans (dK hS2 hd)) ?_ ?_ h
      ·rw [hfi];unfold fU;rw [Χ hyt]
      ·rw [hch3,hch2,or_assoc,iB hS1 hS2 (cC hS2 hd) hle2 (dK hS2 hd)]
     ·have hyt:sy.t=ZQ:=hyt;refine ⟨_,by rw [aG];exact ld (h.le _ _ (l34 _ _ (l12 _ _ qg))) rfl,?_⟩;have hfi2:fU N (dz g.ZI.length) x.left d (sy::x.right.drop (j+1)) S2=fU N (dz g.ZI.length) x.left (ap2 aY d (N sy.i)) (x.right.drop (j+1)) (eN d sy.i x.left (dz g.ZI.length) S2):=by rw [fU,Υ (by rw [hyt];decide)]
      rw [hfi2] at hfi;refine bi (zN N1 N2 · (ui b2 bf) (ZX bg 0 ZR) (ZO (ZX b3 0 ZR)) (ZO (ZX b5 0 ZR)) (ZO (ZX b6 0 ZR)) (ZO (ZX b4 0 ZR)) b8 (ZX b9 0 ZR) b11 p (i:Int) r (j:Int) t _) g.ZI.length
       (λq F'=>∃(G':PH) (S3:Int×Int->Tr) (ch3:Bool),G4.le G'/\Sxs k S3/\Lt' S2 S3/\eN d sy.i x.left (dz g.ZI.length) S2=eN d sy.i x.left ((dz g.ZI.length).drop q) S3/\(ch3=ZT↔ch2=ZT\/S3≠S2)/\
        ∃Bs,St G' F' ([mS bV G' m S3,pt bf (ZP #[ZV ch3] 4),mS aJ Gn mn N,mS aJ Gd md D,pt b9 (ZP y 31)]++Bs))
       ⟨G4,S2,ch2,al _,hS2,Lt'.refl _,by rw [Yw],by simp,[],h.imp 0 rfl λ_ _ hH=>hH.le l4⟩ ?_
      rintro q F5 N3 hq3 ⟨G5,S3,ch3,l5,hS3,hle3,hcp,hch3,Bs,h⟩ next3;replace h:St G5 F5 [mS bV G5 m S3,pt bf (ZP #[ZV ch3] 4),mS aJ Gn mn N,mS aJ Gd md D,pt b9 (ZP y 31)]:=h.pick id (λ_ _ _ _ e=>e) λi hi=>by rw [id,X0 hi]
      have l35:=aa l34 l5;have q115:=l5 _ _ q11;unfold zN;refine ⟨λhql=> ?_,λhqg=> ?_⟩
      ·have hql:q<g.ZI.length:=by omega
       have edq:(dz g.ZI.length).drop q=(q:Int)::(dz g.ZI.length).drop (q+1):=bQ (qX hql);have hcx:Sx k (ap2 aY d (S3 (sy.i,(q:Int)))):=hd.ap2 (o:=aY) (hS3 _);have hcq:eN d sy.i x.left ((dz g.ZI.length).drop q) S3=eN d sy.i x.left ((dz g.ZI.length).drop (q+1)) (bx S3 (x.left,(q:Int)) (ap2 aY d (S3 (sy.i,(q:Int))))):=by rw [edq];rfl
       rw [hcq] at hcp;refine ⟨_,rfl,_,ld (h.le _ _ (E2.le l35).q6) rfl,_,ld (h.le _ _ q115) rfl,?_⟩;refine (qP h (al _) (sy.i,(q:Int))).mono ?_;rintro _ F6 ⟨G6,u,rfl,hu,l6,h⟩;refine ⟨u,rfl,?_⟩;refine h.var hu.st (λb13 G7 F7 l7 q13 h=> ?_) rfl hu.size;obtain ⟨su,eu,hsu⟩:=id hu;have l57:=aa l6 l7;have l37:=aa l35 l57;refine ⟨_,ld (h.le _ _ q13) (by rw [eu];rfl),λh0=> ?_,λh0=> ?_⟩
       ·refine ⟨_,ld (h.le _ _ (l37 _ _ q8)) rfl,y,hy.size,ac (h.ptAt (i:=4) rfl),u,hu.size,ac (h.le _ _ q13),?_⟩;refine h.run (P:=λr' G'=>∃y,r'=Z2 #[ZU y,vi 0]/\DV G' y (dia (ap2 aY d (S3 (sy.i,(q:Int)))))) ((iA hk.le hd (hS3 _) (hy.le (aa l4 (aa l5 l57))) (hu.le l7)).mono λr F' ⟨x,a,b,c⟩=>⟨⟨x,a,b⟩,c⟩) λ_ G8 F8 hr8 l8 h=> ?_;obtain ⟨z,rfl,hz⟩:=hr8;refine ⟨_,_,rfl,ld (h.le _ _ (l8 _ _ (l37 _ _ q8))) rfl,?_⟩;refine h.runv (bB hz) λG9 F9 l9 h=>⟨_,rfl,ld (h.le _ _ (l9 _ _ (l8 _ _ (l37 _ _ q8)))) rfl,_,_,_,rfl,Gc,?_⟩;have l59:=aa l57 (aa l8 l9);refine (uh h l59 hk.le hS3 hcx (hz.le l9) (E2.le (aa l35 l59)).q2 (x.left,(q:Int))).mono ?_;rintro _ F10 ⟨G10,ch4,rfl,hch4,l10,h⟩;refine ⟨rfl,ld (h.le _ _ (l10 _ _ (l9 _ _ (l8 _ _ (l37 _ _ q8))))) rfl,?_⟩;unfold vz;rw [aC hql];refine next3 _ hql ⟨G10,_,ch4,aa l5 (aa l59 l10),cC hS3 hcx,hle3.trans (dK hS3 hcx),hcp,?_,[],h⟩;rw [hch4,hch3,or_assoc,iB hS2 hS3 (cC hS3 hcx) hle3 (dK hS3 hcx)]
       ·have e:S3 (sy.i,(q:Int))=ZL ZQ:=(dW (hS3 _).1).1 (by simpa using h0);rw [e,tS hd.1,dC hS3] at hcp;unfold vz;rw [aC hql];exact next3 _ hql ⟨G7,S3,ch3,aa l5 l57,hS3,hle3,hcp,hch3,[],h.imp 0 rfl λ_ _ hH=>hH.le l57⟩
      ·have hq:q=g.ZI.length:=by omega
       subst hq;rw [List.drop_of_length_le (by rw [Ge];exact XS _)] at hcp;have hcp:eN d sy.i x.left (dz g.ZI.length) S2=S3:=hcp;unfold FV;refine ⟨y,hy.size,ac (h.ptAt (i:=4) rfl),_,rfl,_,ld (h.le _ _ (E2.le l35).q4) rfl,_,ld (h.le _ _ q115) rfl,?_⟩;refine (fw h.front2 (aa lN (aa l12 l35)) sy.i).mono ?_;rintro _ F6 ⟨G6,u,rfl,hu,l6,h⟩;have h:=h.back2;refine ⟨u,rfl,ac (h.ptAt (i:=4) rfl),?_⟩;refine h.run (P:=λr' G'=>∃y,r'=Z2 #[ZU y,vi 0]/\DV G' y (dia (ap2 aY d (N sy.i)))) ((iA hk.le hd (hN _) (hy.le (aa l4 (aa l5 l6))) hu).mono λr F' ⟨x,a,b,c⟩=>⟨⟨x,a,b⟩,c⟩) λ_ G7 F7 hr7 l7 h=> ?_;obtain ⟨z,rfl,hz⟩:=hr7;refine ⟨_,_,rfl,?_⟩;refine h.runv (bB hz) λG8 F8 l8 h=>⟨_,rfl,?_⟩;refine h.put4 (w':=z) hz.size hy.size hz.st λF9 h=> ?_;unfold FU;rw [aC hjl];have l58:=aa l6 (aa l7 l8);refine next2 _ hjl ⟨G8,S3,ch3,_,z,aa l35 l58,hS3,hle2.trans hle3,hd.ap2 (o:=aY) (hN sy.i),hz.le l8,?_,?_,h.imp 0 rfl λ_ _ hH=>hH.le l58⟩
       ·rw [hfi,hcp]
       ·rw [hch3,hch2,or_assoc,iB hS1 hS2 hS3 hle2 hle3]
   ·have hj:j=x.right.length:=by omega
    subst hj;rw [YB] at hfi;exact fin1 (Bs:=[pt b9 (ZP y 31)]) l3 hS2 hle2 hfi hch2 h
  refine ⟨?_,?_⟩
  ·refine (gU h.front3 (aa lD l12) hk.le hD (hk.prs i) hc9 (hr.le l2) hlx).mono ?_;rintro _ F3 ⟨G3,u,rfl,hu,l3,h⟩;have h:=h.back3;refine ⟨u,rfl,at9 l3 h,a3 l3 h,?_⟩;refine h.new λb9 F4 h=> ?_;exact h.put0 (w':=u) hu.size rfl hu.st λF5 h=>fin l3 hu h.rot
  ·refine h.new λb9 F3 h=> ?_;refine (gU h.front4 (aa lD l12) hk.le hD (hk.prs i) hc9 (hr.le l2) hlx).mono ?_;rintro _ F4 ⟨G3,u,rfl,hu,l3,h⟩;have h:=h.back4;refine ⟨u,rfl,at9 l3 h,a3 l3 h,?_⟩;exact h.put0 (w':=u) hu.size rfl hu.st λF5 h=>fin l3 hu h.rot
 ·have e:i=g.ZG.length:=by omega
  subst e;rw [YB] at hrd;have hrd:iw (aF g) N D (dz g.ZI.length) 0 g.ZG S=S1:=hrd;rw [hrd];exact ⟨G1,ch,rfl,l1,hch,h⟩
end
theorem J2:aE prog 74=ZT:=by kernel_rfl
theorem OK:aE prog 72=ZT:=by kernel_rfl
instance:Mem (List Dia) where
 n:=1
 rep F x c:=∃s:Sl,c= #[s.v]/\RL F s x
 len h:=by obtain ⟨s,rfl,_⟩:=h;rfl
 le hl h:=by obtain ⟨s,h1,h2⟩:=h;exact ⟨s,h1,h2.le hl⟩
 st h:=by obtain ⟨s,rfl,_⟩:=h;simp [am,ZS]
theorem Mm:∃b z,SlT 46 39 1 b z:=⟨_,_,underlying46,Xj,Xl,rfl,by decide,by decide⟩
def OL (A:List (List Dia)->Prop) (b:Nat) (G:PH):List (Ψ):=[λH=>∃sl ds,A ds/\RL G sl ds/\H b=ZO (ZP #[ZS sl] 46)]
theorem D4 {A:List (List Dia)->Prop} {b:Nat} {G F:PH} (h:St G F (OL A b G)):∃sl ds,A ds/\RL G sl ds/\St G F [pt b (ZP #[ZS sl] 46)]:=by obtain ⟨sl,h⟩:=h.exI 0 rfl;obtain ⟨ds,h⟩:=h.exI 0 rfl;obtain ⟨e1,h⟩:=h.prI 0 rfl;obtain ⟨e2,h⟩:=h.prI 0 rfl;exact ⟨sl,ds,e1,e2,h⟩
def vI (S:Int×Int->Tr) (nt:Nat) (n:Nat):List Dia:=(List.range nt).map λt:Nat=>dia (S ((n:Int),(t:Int)))
def lH (S:Int×Int->Tr) (nt nn:Nat):List (List Dia):=(List.range nn).map (vI S nt)
theorem zS (S:Int×Int->Tr) (nt n:Nat):lH S nt (n+1)=lH S nt n++[vI S nt n]:=by unfold lH;rw [Zr,Yd];rfl
theorem D5 (S:Int×Int->Tr) (nt n:Nat):(lH S nt n).length=n:=by unfold lH;rw [XW,Yq]
def OM (k:Nat) (g:Gr) (ds:List (List Dia)):Prop:=∃S,xO k g.ZG (aF g) S/\ds=lH S g.ZI.length g.ZH.length
section
variable {G F Gd Gn:PH} {g:Gr} {k m mn md:Nat} {N D:Int->Tr}
theorem BZ {κ:Type} [DecidableEq κ] {S:κ->Tr} {n i:κ} {d:Tr} (h:bx S n d i≠S i):i=n:=by
 unfold bx cQ at h;by_cases e:i=n
 ·exact e
 ·rw [Υ e] at h;exact absurd rfl h
theorem uj {d:Tr} {a b:Int} {n:Int×Int}:∀{ts:Φ} {S:Int×Int->Tr},eN d a b ts S n≠S n->n.1=b/\n.2∈ts
 |[],S,h=>absurd rfl h
 |t::ts,S,h=>by
  unfold eN at h;by_cases e:bx S (b,t) (ap2 aY d (S (a,t))) n=S n
  ·rw [<- e] at h;exact (uj h).imp id (X8 _)
  ·have:=BZ e;exact ⟨by rw [this],by rw [this];simp⟩
theorem xT {ts:Φ} {b:Int} {n:Int×Int}:∀{r:List Sy} {d:Tr} {S:Int×Int->Tr},fU N ts b d r S n≠S n->n.1=b/\(n.2∈ts\/∃s∈r,s.i=n.2)
 |[],d,S,h=>absurd rfl h
 |s::r,d,S,h=>by
  unfold fU at h;by_cases hs:s.t=ZT
  ·rw [Χ hs] at h;have:=BZ h;exact ⟨by rw [this],.inr ⟨s,by simp,by rw [this]⟩⟩
  ·rw [Υ hs] at h;by_cases e:eN d s.i b ts S n=S n
   ·rw [<- e] at h;obtain ⟨h1,h2⟩:=xT h;exact ⟨h1,h2.imp id λ⟨y,hy,e⟩=>⟨y,X8 _ hy,e⟩⟩
   ·obtain ⟨h1,h2⟩:=uj e;exact ⟨h1,.inl h2⟩
def Gf (l:List Pr) (ts:Φ):List (Int×Int):=l.flatMap λx=>(ts++x.right.map (·.i)).map λt=>(x.left,t)
theorem xU {P:Nat->Tr} {ts:Φ} {n:Int×Int}:∀{l:List Pr} {i:Nat} {S:Int×Int->Tr},iw P N D ts i l S n≠S n->n∈Gf l ts
 |[],i,S,h=>absurd rfl h
 |x::l,i,S,h=>by
  unfold Gf;rw [YC,XR];by_cases e:fU N ts x.left (dL D (P i) x.right) x.right S n=S n
  ·unfold iw at h;rw [<- e] at h;exact .inr (xU h)
  ·obtain ⟨h1,h2⟩:=xT e;refine .inl (X1.2 ⟨n.2,?_,by rw [<- h1]⟩);rw [XR,X1];exact h2
theorem J3 {ban bg b3 b5 b6 b4:Nat} (hk:OkK g k) (hN:bZ k g.ZG (aF g) ZT N) (hD:bZ k g.ZG (aF g) ZQ D) (lN:Gn.le G) (lD:Gd.le G) (hl:∀x∈g.ZG,x.right.length<=1000000) (hp:g.ZG.length<=1000000) (ht:g.ZI.length<=1000000)
  (E:∀G' b2,G.le G'->G'.cell ⟨b2,0,ZR⟩=ZO (.map (ZO m))->FsE G' g mn md m ban bg b3 b5 b6 b4 b2):
  Ra G k m 74 #[] #[ZZ (ZO ⟨bg,0,ZR⟩),ZZ (ZO ⟨b3,0,ZR⟩),ZZ (ZO ⟨b5,0,ZR⟩),ZZ (ZO ⟨b6,0,ZR⟩),ZZ (ZO ⟨b4,0,ZR⟩)]
   (Gf g.ZG (dz g.ZI.length)) (λS=>∀n c,(S n).ev c=ZT->Fst g.ZG (aF g) c n.1 n.2) (iw (aF g) N D (dz g.ZI.length) 0 g.ZG) (λ_=>()) (λ_ _=>[mS aJ Gn mn N,mS aJ Gd md D]) where
 cb:=J2
 sx S hS hI:=by obtain ⟨a1,a2⟩:=kQ hk.prs hN.sx hD.sx (dz g.ZI.length) g.ZG 0 hS;exact ⟨a1,xN hk.prs hN hD (dz g.ZI.length) g.ZG 0 (λj x hj=>by rw [X5];exact hj) hS hI,a2,λn hn=>xU hn⟩
 run G' F' S x b2 b4 l hS hI hc h:=by
  have e:∀(a:ξ) (v:Γ),(#[]++ #[a]++v:Γ)= #[a]++v:=λa v=>by simp
  rw [e];exact J1 hk hN.sx hD.sx (aa lN l) (aa lD l) hl hp ht (E G' b2 l hc) hS h
theorem xV {v:Γ} {ban b1 b2:Nat} (hk:OkK g k) (hl:∀x∈g.ZG,x.right.length<=1000000) (hp:g.ZG.length<=1000000) (ht:g.ZI.length<=1000000) (hs:g.ZH.length<=1000000) (hAn:AnV G ban g) (q1:G b1=ZO (ZP v 37)) (hg:GV G v g)
  (h:St G F [pt b2 (ZP #[ZS Z3] 46)]):ν 72 #[ZZ (ZO ⟨ban,0,ZR⟩),ZZ (ZO ⟨b1,0,ZR⟩),ZZ (ZO ⟨b2,0,ZR⟩)] F λr F'=>∃G',r=Z2 #[]/\G.le G'/\St G' F' (OL (OM k g) b2 G'):=by
 obtain ⟨_,_,T⟩:=Mm;have hg0:=hg;obtain ⟨c,n,t,s,p,lv,f,rfl,hgs⟩:=hg;have es:=hgs.s.len;have et:=hgs.t.len;refine Wh ?_;unfold QZ;refine h.newG λb3 G1 F1 l1 q3 _ h=>⟨_,ld (h.le _ _ q3) rfl,?_⟩;refine (cU hk hl hp (hAn.le l1) h).mono ?_;rintro _ F2 ⟨G2,mn,N,rfl,l2,hN,h⟩;refine ⟨_,rfl,?_⟩;refine h.var1 λb4 G3 F3 l3 q4 h=> ?_;have l13:=aa l1 (aa l2 l3);refine ⟨_,ld (h.le _ _ (l3 _ _ (l2 _ _ q3))) rfl,?_⟩;refine (cU hk hl hp (hAn.le l13) h).mono ?_;rintro _ F4 ⟨G4,md,D,rfl,l4,hD,h⟩;refine ⟨_,rfl,?_⟩;refine h.var1 λb5 G5 F5 l5 q5 h=> ?_;refine h.new λm F6 h=> ?_;have h:=h.toMap bV;refine h.var1 λb6 G6 F7 l6 q6 h=> ?_;refine ⟨_,ld (h.le _ _ q6) rfl,?_⟩;have l36:=aa l4 (aa l5 l6);have l16:=aa l13 l36;have h0:St G6 F7 ([mS bV G6 m (λ_=>ZL ZQ),mS aJ G2 mn N,mS aJ G4 md D]++[pt b2 (ZP #[ZS Z3] 46)]):=
  ((h.imp 0 rfl λ_ _ hH=>hH.le l6).front2).swap
 have hrn:=J3 (G:=G6) (Gd:=G4) (Gn:=G2) (m:=m) (mn:=mn) (md:=md) (ban:=ban) (bg:=b1) (b3:=b3) (b5:=b5) (b6:=b6) (b4:=b4) hk hN hD (aa l3 l36) (aa l5 l6) hl hp ht (λG' b2 l hc=>
  ⟨⟨_,(aa l16 l) _ _ q1,hg0.le (aa l16 l)⟩,l _ _ (l36 _ _ (l3 _ _ (l2 _ _ q3))),l _ _ (l6 _ _ q5),l _ _ q6,l _ _ (l36 _ _ q4),hc,hAn.le (aa l16 l)⟩)
 refine (h0.callL (P:=λr _=>r=Z2 #[]) (Bs':=λ_ G'=>[λH=>∃S,xO k g.ZG (aF g) S/\mS bV G' m S H]) λF1 h1=> ?_).mono ?_
 ·have up:∀(G' G'' F':PH) (x:Unit) (S:Int×Int->Tr),G'.le G''->St G'' F' (mS bV G' m S::[mS aJ G2 mn N,mS aJ G4 md D])->St G'' F' (mS bV G'' m S::[mS aJ G2 mn N,mS aJ G4 md D]):=λG' G'' F' x S l h=>h.imp 0 rfl λH _ hH=>hH.le l;refine (D3 (As:=λ_ _=>[mS aJ G2 mn N,mS aJ G4 md D]) hrn up (x:=()) (λ_=>Sx.ZL k ZQ) (λn c hc=>(by cases hc)) h1).mono ?_;rintro _ F8 ⟨G8,S,rfl,l8,hS,hI,he,h⟩;have hF:xO k g.ZG (aF g) S:=FD (λx hx s hs hst=> ?_) hk.prs hN hD hS hI he
  ·exact ⟨G8,rfl,l8,h.hd.imp (A':=λH=>∃S,xO k g.ZG (aF g) S/\mS bV G8 m S H) 0 rfl λH _ hH=>⟨S,hF,hH⟩⟩
  ·obtain ⟨h0,_,h2⟩:=(hk.prod hx).2.2.2 s hs;obtain ⟨tk,htk,_⟩:=h2 hst;have hlt:=(XN.1 htk).1;have:=XQ (qX hlt);rwa [Int.toNat_of_nonneg h0] at this
 rintro _ F9 ⟨G9,rfl,l9,h⟩;obtain ⟨S,h⟩:=h.exI 0 rfl;obtain ⟨hF,h⟩:=h.prI 0 rfl;have l19:=aa l16 l9;have q19:=l19 _ _ q1;have q69:=l9 _ _ q6;refine ⟨rfl,_,rfl,_,by rw [aG];exact ld (h.le _ _ q19) rfl,?_⟩;have h:=h.nilOwn 39 1;have h:St G9 F9 [own Z3 39 1 (cat []),mS bV G9 m S,pt b2 (ZP #[ZS Z3] 46)]:=h
 refine bi (zM · (ZX b1 0 ZR) (ZO (ZX b2 0 ZR)) b6 s _) g.ZH.length (λi F'=>∃(G':PH) (sl:Sl) (vs:List Γ),G9.le G'/\df G' (lH S g.ZI.length i) vs/\
  St G' F' [own sl 39 1 (cat vs),mS bV G9 m S,pt b2 (ZP #[ZS sl] 46)]) ⟨G9,Z3,[],al _,.nil,h⟩ ?_
 rintro i F10 N1 hi ⟨G10,sl,vs,l10,hv,h⟩ next;unfold zM;have q110:=l10 _ _ q19;refine ⟨λhlt=> ?_,λhge=> ?_⟩
 ·have hlt:i<g.ZH.length:=by omega
  refine h.new λb24 F11 h=> ?_;have h:=h.toMap aJ;refine ⟨_,by rw [aG];exact ld (h.le _ _ q110) rfl,?_⟩
  refine bi (zK N1 · (ZX b1 0 ZR) (ZO (ZX b2 0 ZR)) b6 (i:Int) b24 s t _) g.ZI.length (λq F'=>∃(G':PH) (U:Int->Tr),G10.le G'/\(∀q':Nat,q'<q->U q'=S ((i:Int),(q':Int)))/\
   St G' F' [mS aJ G' b24 U,own sl 39 1 (cat vs),mS bV G9 m S,pt b2 (ZP #[ZS sl] 46)]) ⟨G10,_,al _,λq' hq'=>by omega,h⟩ ?_
  rintro q F12 N2 hq ⟨G12,U,l12,hU,h⟩ next2;unfold zK;refine ⟨λhql=> ?_,λhqg=> ?_⟩
  ·have hql:q<g.ZI.length:=by omega
   refine ⟨_,ld (h.le _ _ (l12 _ _ (l10 _ _ q69))) rfl,?_⟩;refine (qP h.front2 (aa l10 l12) ((i:Int),(q:Int))).mono ?_;rintro _ F13 ⟨G13,w,rfl,hw,l13',h⟩;have h:=h.back2;refine ⟨w,rfl,?_⟩;obtain ⟨o,mp,m1,m2,m3⟩:=h.mS_at (i:=0) rfl;refine aX xP m1 m2 (q:Int) (ZU w) λo' ho'=> ?_;have h:=h.mS_set 0 rfl (G1:=G13) (S':=cQ U (q:Int) (S ((i:Int),(q:Int)))) ho' ((m3.le l13').put hw);rw [aC hql];refine next2 _ hql ⟨G13,_,aa l12 l13',λq' hq'=> ?_,h⟩;unfold cQ;by_cases e:q'=q
   ·rw [e,Χ rfl]
   ·rw [Υ (by omega),hU q' (by omega)]
  ·have hq:q=g.ZI.length:=by omega
   subst hq;unfold FS;have q112:=l12 _ _ q110;refine ⟨_,rfl,_,ld (h.ptAt (i:=3) rfl) rfl,_,by rw [aG];exact ld (h.le _ _ q112) rfl,?_⟩;dsimp only;rw [et];refine (fz h hk.le g.ZI.length (λq hq=>by rw [hU q hq];exact hF.sx _) ht).mono ?_;rintro _ F13 ⟨G13,rs,rfl,l13',hrs,h⟩;have q113:=l13' _ _ q112;refine ⟨_,rfl,by rw [aG];exact ld (h.le _ _ q113) rfl,ld (h.ptAt (i:=2) rfl) rfl,?_⟩;have erow:bv U g.ZI.length=vI S g.ZI.length i:=by unfold bv vI;refine YR λq hq=> ?_;rw [hU q (Yv.1 hq)]
   rw [erow] at hrs;have hlen:sl.len=i:=by have:=RL.len ⟨vs,(hv.le (aa l12 l13')).le h.le,bX.rd (h.ownAt (i:=0) rfl).1⟩ (by decide);rw [D5] at this;exact this
   refine h.push0 T (c:= #[rs.v]) rfl (by simp [am,ZS]) (by omega) λs' G14 F14 l14 h hl'=> ?_;refine ⟨by rw [aG];exact ld (h.le _ _ (l14 _ _ q113)) rfl,?_⟩;refine h.set2 (w':= #[ZS s']) (Z8 rfl) rfl λF15 h=> ?_;unfold FR;rw [aC hlt];refine next _ hlt ⟨G14,s',vs++[#[rs.v]],aa l10 (aa l12 (aa l13' l14)),?_,?_⟩
   ·rw [zS];exact (hv.le (aa l12 (aa l13' l14))).append (.cons ⟨rs,rfl,hrs.le l14⟩ .nil)
   ·rw [bR,cL];exact h
 ·have e:i=g.ZH.length:=by omega
  subst e;obtain ⟨G11,l11,hd,h⟩:=h.pinO;refine ⟨G11,rfl,aa l19 (aa l10 l11),?_⟩;exact (h.swap.hd).imp 0 rfl λH _ hH=>⟨sl,_,⟨S,hF,rfl⟩,⟨vs,hv.le l11,hd⟩,hH⟩
theorem D6 {v:Γ} (hT:Tab F) (hg:GV F v g) (hz:Sz g) (hk:OkK g k) (hl:∀x∈g.ZG,x.right.length<=1000000) (hp:g.ZG.length<=1000000) (ht:g.ZI.length<=1000000) (hs:g.ZH.length<=1000000):
  ν 25 #[ZU v] F λr F'=>(∃sl ds,r=Z2 #[ZS sl,vi 0]/\OM k g ds/\RL F' sl ds)/\F.le F':=by
 refine V2 ?_;unfold QI;refine (St.start F).newG λb1 G1 F1 l1 q1 _ h=>h.new λb2 F2 h=>⟨v,hg.size,ac (h.le _ _ q1),?_⟩;refine (eJ (kr:=72) (fst:= #[]) (cap:= #[ZZ (ZO ⟨b1,0,ZR⟩),ZZ (ZO ⟨b2,0,ZR⟩)]) (Bs:=OL (OM k g) b2) (hT.le l1) (hg.le l1) hz hk hl hp h OK λG' ban F' l hAn h=> ?_).mono ?_
 ·rw [xQ];exact xV hk hl hp ht hs hAn (l _ _ q1) ((hg.le l1).le l) h
 rintro _ F3 ⟨rfl,G3,l3,h⟩;obtain ⟨sl,ds,h1,h2,h⟩:=D4 h;refine ⟨_,rfl,sl,h.ld0 rfl,?_⟩;refine h.set0 (w':= #[ZS sl]) (Z8 rfl) rfl λF4 h=>⟨_,h.ld0 rfl,⟨sl,ds,rfl,h1,h2.le h.le⟩,aa l1 (aa l3 h.le)⟩
end
theorem gC {α:Type} [DecidableEq α]:∀{l m:List α},l.Nodup->(∀x∈l,x∈m)->l.length<=m.length
 |[],_,_,_=>Zj _
 |x::l,m,h,hs=>by rw [YL] at h;have hx:=hs x (by simp);have:=gC (m:=m.erase x) h.2 λy hy=>(List.mem_erase_of_ne λe=>h.1 (by rw [<- e];exact hy)).2 (hs y (X8 _ hy));rw [List.length_erase_of_mem hx] at this;have h0:0<m.length:=List.length_pos_of_mem hx;rw [X4];omega
theorem jP {K:Type} [DecidableEq K] {k:K} {v:ξ}:∀{L:List (K×ξ)},(L.map (·.1)).Nodup->(lk k L=ZO v↔(k,v)∈L)
 |[],_=>by simp [lk]
 |p::L,h=>by
  rw [Yf,YL] at h;unfold lk;by_cases e:k=p.1
  ·rw [Χ e];constructor
   ·intro h';cases h';rw [e];exact YU ..
   ·intro h';rcases XP.1 h' with h'|h'
    ·rw [<- h']
    ·exact absurd (X1.2 ⟨_,h',e⟩) h.1
  ·rw [Υ e,jP h.2,XP];exact ⟨.inr,λh'=>h'.resolve_left λh'=>e (by rw [<- h'])⟩
theorem uk {K:Type} [DecidableEq K] (k:K):∀(L:List (K×ξ)) (i:Nat),fnd k L i=ZR->∀p∈L,p.1≠k
 |[],_,_,p,h=>by cases h
 |q::L,i,h,p,hp=>by
  unfold fnd at h;split at h
  ·cases h
  ·rename_i hn;rcases XP.1 hp with rfl|hp
   ·exact λe=>hn e.symm
   ·exact uk k L _ h p hp
section
variable {K:Type} [DecidableEq K] {enc:K->ξ} {m:K->Option ξ} {F:PH} {r:Nat}
structure qZ (enc:K->Value) (m:K->Option Value) (es:Array MapEntry) (c:Nat) (L:List (K×Value)):Prop where
 eq:es.toList.map (λe=>(e.key,e.val))=L.map (λp=>(enc p.1,p.2))
 lk:∀k,m k=lk k L
 st:MapKept.Stamped es c
def xW (enc:K->ξ) (m:K->Option ξ) (o:Obj):Prop:=∃es c L,o=.map es c/\qZ enc m es c L
theorem xW.mapO {o:Obj} (h:xW enc m o):eM enc m o:=by obtain ⟨es,c,L,rfl,h⟩:=h;exact ⟨es,c,L,rfl,h.eq,h.lk⟩
theorem xW.empty (enc:K->ξ):xW enc (λ_=>ZR) (.map #[] 0):=⟨#[],0,[],rfl,rfl,λ_=>rfl,MapKept.stamped_empty 0⟩
theorem qZ.len {es:Array MapEntry} {c:Nat} {L:List (K×ξ)} (h:qZ enc m es c L):es.size=L.length:=by simpa using congrArg List.length h.eq
theorem qZ.nodup {es:Array MapEntry} {c:Nat} {L:List (K×ξ)} (h:qZ enc m es c L):(L.map (·.1)).Nodup:=by
 have h3:=h.st.2.2;have e:es.toList.map (·.key)=(L.map (·.1)).map enc:=by have:=congrArg (List.map Prod.fst) h.eq;simpa [List.map_map,Function.comp_def] using this
 rw [e] at h3;exact (List.pairwise_map.1 h3).imp λhne e=>hne (by rw [e])
theorem qZ.entry {es:Array MapEntry} {c:Nat} {L:List (K×ξ)} (h:qZ enc m es c L) {e:MapEntry} (he:e∈es.toList):∃k,e.key=enc k/\m k=ZO e.val:=by
 have h1:(e.key,e.val)∈es.toList.map (λe=>(e.key,e.val)):=X1.2 ⟨e,he,rfl⟩;rw [h.eq] at h1;obtain ⟨p,hp,h2⟩:=X1.1 h1;injection h2 with h2 h3
 exact ⟨p.1,h2.symm,by rw [h.lk,<- h3];exact (jP h.nodup).2 hp⟩
theorem qZ.of {es:Array MapEntry} {c:Nat} {L:List (K×ξ)} (h:qZ enc m es c L) {k:K} {v:ξ} (hk:m k=ZO v):∃e∈es.toList,e.key=enc k/\e.val=v:=by
 rw [h.lk,jP h.nodup] at hk;have h1:(enc k,v)∈L.map λp=>(enc p.1,p.2):=X1.2 ⟨_,hk,rfl⟩;rw [<- h.eq] at h1;obtain ⟨e,he,h2⟩:=X1.1 h1;injection h2 with h2 h3
 exact ⟨e,he,h2,h3⟩
variable {P:Program} {mt:TypeId} {z:ξ}
theorem D7 (hm:gn P mt enc z) (inj:∀a b,enc a=enc b->a=b) {o:Obj} (hr:F r=ZO o) (ho:xW enc m o) (k:K) (v:ξ) {Q:Unit->Ψ}
  (h:∀o',xW enc (λk'=>if k'=k then ZO v else m k') o'->Q () (F.set r o')):aH P (Instr.mapUpdate mt (.map (ZO r)) (enc k) v) F Q:=by
 obtain ⟨kt,e,h1,h2,hk⟩:=hm.ex;have hnc:=ho.mapO.not_cells;obtain ⟨es,c,L,rfl,hL⟩:=ho;have h3:=hL.eq;have hf:=mW k v L 0;have hn:=mV k v L 0;unfold Instr.mapUpdate;simp only [aD,ca h1];refine ⟨_,hr,hnc,?_⟩;rw [show (Sem.pure (Obj.map es c):Sem Obj)=pure (Obj.map es c) from rfl];simp only [aL,aD];refine ip _ _ _ _ (hk.chk F _ k) ?_;refine ip _ _ _ _ (gJ hk k _ _ h3) ?_;have hmm:∀k',(if k'=k then ZO v else m k')=lk k' (upL k v L):=λk'=>by rw [A5,hL.lk]
 cases hfd:fnd k L 0 with
 |none=>
  refine ⟨_,hr,hnc,h _ ⟨_,_,upL k v L,rfl,?_,hmm,MapKept.stamped_push hL.st λx hx=> ?_⟩⟩
  ·rw [(hn hfd).2];simp [h3]
  ·obtain ⟨k',e1,e2⟩:=hL.entry hx;rw [e1];intro e';have:=inj _ _ e';rw [hL.lk,jP hL.nodup] at e2;exact uk k L 0 hfd _ e2 this
 |some q=>
  obtain ⟨j,w⟩:=q;obtain ⟨d,hj,hd,h5,h6,h7⟩:=hf j w hfd;obtain rfl:j=d:=by omega
  have hlen:=hL.len;have hjk:∀e∈es.toList,es[j]? =ZO e->enc k=e.key:=λe _ he=>by
   have:=congrArg (λl=>l[j]?) h3;simp only [X2,h5,YD,Y5,he] at this;injection this with this
   injection this with this _
   exact this.symm
  have hkey:(es[j]?.map (·.key)).getD (enc k)=enc k:=by
   have:=congrArg (λl=>l[j]?) h3;simp only [X2,h5,YD] at this;have hj2:j<es.size:=by omega
   simp [hj2] at this ⊢;exact this.1
  simp only [aD,hkey,Instr.keyThatStays,hk.same,if_true,aL];refine ⟨_,hr,hnc,h _ ⟨_,_,upL k v L,rfl,?_,hmm,MapKept.stamped_modify hL.st j _ (λ_ _=>rfl) (λe he1 he2=>hjk e he1 he2)⟩⟩;rw [h7];apply Yx;intro i;have h3i:=congrArg (λl=>l[i]?) h3;simp only [X2] at h3i;simp only [Array.toList_modify,X2,Zc,Ze];by_cases hi:j=i
  ·subst hi;have hj2:j<es.toList.length:=by simpa [hlen] using hd
   rw [N6 hj2];simp [hd]
  ·simp only [hi,if_false];simpa using h3i
end
section
variable {F:PH} {r:Nat}
theorem nE {n:Nat} (hn:0<n) {F:PH} {Q:Nat->Ψ} (h:∀i,i<n->Q i F):aH prog (choose (.mapNext n)) F Q:=by
 unfold choose;unfold aH;by_cases hf:(Question.mapNext n).forced=ZT
 ·rw [Χ hf];exact h 0 hn
 ·rw [Υ hf];intro t;exact h (t % n) (YT _ hn)
theorem zU {es:Array MapEntry} {c b:Nat} {bJ:Array Nat} {ty:TypeId} (hr:F r=ZO (.map es c)) (hst:MapKept.Stamped es c) (hb:F b=ZO (.mapIter (ZO r) c bJ c)) {Q:ξ->Ψ}
  (h0:(∀e∈es.toList,bJ.contains e.born=ZT)->Q (Z2 #[ZV ZQ]) F)
  (h1:∀e∈es.toList,bJ.contains e.born=ZQ->Q (Z2 #[ZV ZT,e.key,e.val]) (F.set b (.mapIter (ZO r) c (bJ.push e.born) c))):
  aH prog (Instr.next (ZZ (ZO ⟨b,0,ZR⟩)) ZQ ty) F Q:=by
 unfold Instr.next;simp only [aD];refine ⟨_,hb,λ_ _ _ h=>(by cases h),?_⟩;rw [show (Sem.pure (Obj.mapIter (ZO r) c bJ c):Sem Obj)=pure (Obj.mapIter (ZO r) c bJ c) from rfl];simp only [aL,aD];refine ⟨_,hr,λ_ _ _ h=>(by cases h),?_⟩;rw [show (Sem.pure (Obj.map es c):Sem Obj)=pure (Obj.map es c) from rfl];simp only [aL];have hall:(es.all λe=>decide (e.born≥c))=ZQ\/es.isEmpty=ZT:=by
  by_cases he:es.isEmpty=ZT
  ·exact .inr he
  ·left;rw [YK];intro hc;rw [Array.all_eq_true'] at hc;have hne:es.toList≠[]:=λe=>he (by rw [Array.isEmpty_iff];exact Array.toList_eq_nil_iff.1 e);obtain ⟨x,hx⟩:=List.exists_mem_of_ne_nil _ hne;have h2:=hst.1 x hx;have h3:=hc x (Array.mem_def.2 hx);simp at h3;omega
 have hif:(!bJ.isEmpty && !es.isEmpty && es.all λe=>decide (e.born≥c))=ZQ:=by rcases hall with h|h<;>simp [h]
 rw [hif];simp only [Yn,if_false,aD]
 refine nE (by
  rw [Array.size_append];by_cases ho:((es.filter λe=> !bJ.contains e.born).filter λx=>decide (x.born<c)).isEmpty=ZT
  ·rw [Χ ho];exact Nat.lt_of_lt_of_le Nat.zero_lt_one (Nat.le_add_right _ _)
  ·rw [Υ ho];have:0<((es.filter λe=> !bJ.contains e.born).filter λx=>decide (x.born<c)).size:=by
    rcases Y7 ((es.filter λe=> !bJ.contains e.born).filter λx=>decide (x.born<c)).size with h|h
    ·exact absurd (by simpa [Array.isEmpty] using h) ho
    ·exact h
   rw [Array.size_map,Array.size_append]
   omega) λi hi=> ?_
 rw [Yc hi];have hmem:=Array.getElem_mem hi;revert hmem;generalize ((if ((es.filter λe=> !bJ.contains e.born).filter λx=>decide (x.born<c)).isEmpty=ZT then #[ZR] else #[])++Array.map ZO ((es.filter λe=> !bJ.contains e.born).filter (λx=>decide (x.born<c))++(es.filter λe=> !bJ.contains e.born).filter λx=>decide (x.born≥c)))[i]=y;intro hmem;rw [Array.mem_append] at hmem;cases y with
 |none=>
  simp only [aL];refine h0 λe he=> ?_;have h3:=hst.1 e he;rcases hmem with hmem|hmem
  ·by_cases ho:((es.filter λe=> !bJ.contains e.born).filter λx=>decide (x.born<c)).isEmpty=ZT
   ·cases hs:bJ.contains e.born with
    |true=>rfl
    |false=>
     exfalso;have hin:e∈(es.filter λe=> !bJ.contains e.born).filter λx=>decide (x.born<c):=by rw [Array.mem_filter,Array.mem_filter];exact ⟨⟨Array.mem_def.2 he,by rw [hs];rfl⟩,by simpa using h3⟩
     rw [Array.isEmpty_iff] at ho;rw [ho] at hin;exact absurd hin (by simp)
   ·rw [Υ ho] at hmem;exact absurd hmem (by simp)
  ·rw [Array.mem_map] at hmem;obtain ⟨_,_,h⟩:=hmem;cases h
 |some e=>
  have hin:e∈es/\bJ.contains e.born=ZQ:=by
   rcases hmem with hmem|hmem
   ·split at hmem
    ·simp at hmem
    ·simp at hmem
   ·rw [Array.mem_map] at hmem;obtain ⟨e',he',h⟩:=hmem;injection h with h
    subst h;simp only [Array.mem_append,Array.mem_filter] at he';rcases he' with h|h
    ·exact ⟨h.1.1,by simpa using h.1.2⟩
    ·exact ⟨h.1.1,by simpa using h.1.2⟩
  simp only [aD,aL];refine ⟨_,hb,λ_ _ _ h=>(by cases h),h1 e (Array.mem_def.1 hin.1) hin.2⟩
theorem xX {mt kt e:TypeId} (hm:prog.underlying mt=ZO (.map kt e)) {es:Array MapEntry} {c:Nat} (hr:F r=ZO (.map es c)) {Q:ξ->Ψ} (h:∀b,F b=ZR->Q (.pointer (ZO ⟨b,0,ZR⟩)) (F.set b (.mapIter (ZO r) c #[] c))):aH prog (Instr.range mt (.map (ZO r))) F Q:=by unfold Instr.range;simp only [aD,ca hm];refine ⟨_,hr,λ_ _ _ h=>(by cases h),?_⟩;rw [show (Sem.pure (Obj.map es c):Sem Obj)=pure (Obj.map es c) from rfl];simp only [aL,aD,newObj,aH];exact h
theorem ra:∀{l:List MapEntry},(l.map (·.born)).Nodup->∀{a b},a∈l->b∈l->a.born=b.born->a=b
 |[],_,_,_,ha,_,_=>by simp at ha
 |x::l,h,a,b,ha,hb,e=>by
  rw [Yf,YL] at h;rcases XP.1 ha with ha|ha<;>rcases XP.1 hb with hb|hb
  ·rw [ha,hb]
  ·exact absurd (X1.2 ⟨b,hb,by rw [<- e,ha]⟩) h.1
  ·exact absurd (X1.2 ⟨a,ha,by rw [e,hb]⟩) h.1
  ·exact ra h.2 ha hb e
theorem D8 {F:PH} {es:Array MapEntry} {c r b:Nat} {bJ:Array Nat} {e:MapEntry} (hr:F r=ZO (.map es c)) (hst:MapKept.Stamped es c) (hb:F b=ZO (.mapIter (ZO r) c (bJ.push e.born) c)) (he:e∈es.toList):
  rdo prog (Instr.entry (ZZ (ZO ⟨b,0,ZR⟩))) F (Z2 #[e.key,e.val]):=by
 unfold Instr.entry;simp only [ak];refine ⟨_,⟨_,hb,λ_ _ _ h=>(by cases h),rfl⟩,?_⟩;simp only [Array.back?_push];simp only [ak];refine ⟨_,⟨_,hr,λ_ _ _ h=>(by cases h),rfl⟩,?_⟩;simp only [bne_self_eq_false,Yn,if_false];have hf:es.find? (λx=>x.born==e.born)=ZO e:=by
  cases h:es.find? (λx=>x.born==e.born) with
  |none=>rw [Array.find?_eq_none] at h;exact absurd (show (e.born==e.born)=ZT by simp) (h e (Array.mem_def.2 he))
  |some y=>have h1:=Array.mem_of_find?_eq_some h;have h2:=Array.find?_some h;rw [ra hst.2.1 (Array.mem_def.1 h1) he (by simpa using h2)]
 rw [hf];rfl
end
section
variable {K:Type} [DecidableEq K] {enc:K->ξ} {m:K->Option ξ} {G F:PH} {As:List (Ψ)} {r b c:Nat} {es:Array MapEntry} {L:List (K×ξ)}
theorem St.newB (h:St G F As) {b:Nat} (hb:F b=ZR) (o:Obj):St G (F.set b o) (pt b o::As):=h.push (H:=PH.set (λ_=>ZR) b o) (au _ _ _) (λx hx=>by
 by_cases e:x=b
 ·rw [e];exact hb
 ·rw [aB _ _ e] at hx;exact absurd rfl hx) (λx p hx=>by
 by_cases e:x=b
 ·rw [e,au] at hx ⊢;exact hx
 ·rw [aB _ _ e] at hx;cases hx) (ae o hb)
def itG (enc:K->ξ) (r b:Nat) (es:Array MapEntry) (c:Nat) (ks:List K):Ψ:=λH=>∃done:List MapEntry,done.map (·.key)=ks.map enc/\(∀e∈done,e∈es.toList)/\H b=ZO (.mapIter (ZO r) c (done.map (·.born)).toArray c)
theorem St.rangeG {mt kt e:TypeId} (hm:prog.underlying mt=ZO (.map kt e)) (h:St G F As) (enc:K->ξ) (hr:F r=ZO (.map es c)) {C:Nat->Ψ} (k:∀b F',St G F' (itG enc r b es c []::As)->C b F'):
  aH prog (Instr.range mt (.map (ZO r))) F λv F=>∃b,v=ZZ (ZO ⟨b,0,ZR⟩)/\C b F:=by
 have _:=(inferInstance:DecidableEq K);refine xX hm hr λb hb=>⟨b,rfl,?_⟩;have:=h.newB hb (.mapIter (ZO r) c #[] c);exact k b _ (this.imp 0 rfl λH _ hH=>⟨[],rfl,λ_ h=>(by cases h),hH⟩)
theorem St.nextG (hL:qZ enc m es c L) (inj:∀a b,enc a=enc b->a=b) {ks:List K} (h:St G F (itG enc r b es c ks::As)) (hn:ks.Nodup) (hs:∀k∈ks,∃v,m k=ZO v) (hr:F r=ZO (.map es c)) {ty:TypeId} {Q:ξ->Ψ}
  (fin:(∀k v,m k=ZO v->k∈ks)->Q (Z2 #[ZV ZQ]) F)
  (step:∀k v F',m k=ZO v->k ∉ ks->ks.length<es.size->St G F' (itG enc r b es c (ks++[k])::As)->F' r=ZO (.map es c)->rdo prog (Instr.entry (ZZ (ZO ⟨b,0,ZR⟩))) F' (Z2 #[enc k,v])->Q (Z2 #[ZV ZT,enc k,v]) F'):
  aH prog (Instr.next (ZZ (ZO ⟨b,0,ZR⟩)) ZQ ty) F Q:=by
 obtain ⟨H,⟨done,h1,h2,h3⟩,hd,hle,hset⟩:=h.set (i:=0) (A':=itG enc r b es c ks) rfl;clear hset;have hb:=hle _ _ h3;have hkey:∀e∈es.toList,e∈done↔∃k∈ks,e.key=enc k:=λe he=>by
  constructor
  ·intro hi;have:e.key∈done.map (·.key):=X1.2 ⟨e,hi,rfl⟩;rw [h1] at this;obtain ⟨k,hk,e'⟩:=X1.1 this;exact ⟨k,hk,e'.symm⟩
  ·rintro ⟨k,hk,e'⟩;have:enc k∈ks.map enc:=X1.2 ⟨k,hk,rfl⟩;rw [<- h1] at this;obtain ⟨x,hx,e2⟩:=X1.1 this;have:x=e:=p5 hL.st.2.2 (h2 x hx) he (by rw [e2,e']);rw [<- this];exact hx
 have hseen:∀e∈es.toList,((done.map (·.born)).toArray.contains e.born=ZT↔e∈done):=λe he=>by
  rw [Array.contains_iff_mem,Array.mem_def];constructor
  ·intro hi;obtain ⟨a,ha,e'⟩:=X1.1 hi;rw [<- ra hL.st.2.1 (h2 a ha) he e'];exact ha
  ·intro hi;exact X1.2 ⟨e,hi,rfl⟩
 refine zU hr hL.st hb (λhall=>fin λk v hk=> ?_) λe he hnew=> ?_
 ·obtain ⟨e,he,e1,_⟩:=hL.of hk;obtain ⟨k',hk',e2⟩:=(hkey e he).1 ((hseen e he).1 (hall e he));rw [inj k k' (by rw [<- e1,e2])];exact hk'
 ·obtain ⟨k,e1,e2⟩:=hL.entry he;have hnd:e ∉ done:=λhi=>by rw [(hseen e he).2 hi] at hnew;cases hnew
  have hk:k ∉ ks:=λhi=>hnd ((hkey e he).2 ⟨k,hi,e1⟩);have hne:r≠b:=λe'=>by rw [e',hb] at hr;cases hr
  have hr':(F.set b (.mapIter (ZO r) c ((done.map (·.born)).toArray.push e.born) c)) r=ZO (.map es c):=by rw [aB _ _ hne];exact hr
  have hlt:ks.length<es.size:=by
   have hsub:∀x∈ks++[k],x∈L.map (·.1):=λx hx=>by
    have:∃v,m x=ZO v:=by
     rcases XR.1 hx with hx|hx
     ·exact hs x hx
     ·rw [XO.1 hx];exact ⟨_,e2⟩
    obtain ⟨v,hv⟩:=this;rw [hL.lk,jP hL.nodup] at hv;exact X1.2 ⟨_,hv,rfl⟩
   have hnn:(ks++[k]).Nodup:=by rw [Ye];exact ⟨hn,by simp,λa ha b' hb' e'=>hk (by rw [XO.1 hb'] at e';rw [<- e'];exact ha)⟩
   have:=gC hnn hsub;rw [XT,X3,XW,<- hL.len] at this;omega
  have hst:St G (F.set b (.mapIter (ZO r) c ((done.map (·.born)).toArray.push e.born) c)) (itG enc r b es c (ks++[k])::As):=by
   obtain ⟨H2,⟨d2,g1,g2,g3⟩,gd,gle,gset⟩:=h.set (i:=0) (A':=itG enc r b es c (ks++[k])) rfl;have ed:d2.map (·.born)=done.map (·.born):=by
    have:=gle _ _ g3;rw [hb] at this;injection this with this
    injection this with _ _ this _
    simpa using this.symm
   refine gset (H2.set b (.mapIter (ZO r) c ((done.map (·.born)).toArray.push e.born) c)) _ ⟨d2++[e],by simp [g1,e1],λx hx=> ?_,?_⟩ (λx hx=> ?_) (λx p hx=> ?_) (λx p hx hn=> ?_)
   ·rcases XR.1 hx with hx|hx
    ·exact g2 x hx
    ·rw [XO.1 hx];exact he
   ·rw [au,Yd,ed];simp
   ·by_cases e':x=b
    ·rw [e',g3];exact .inl (by simp)
    ·rw [aB _ _ e'] at hx;exact .inl hx
   ·by_cases e':x=b
    ·rw [e',au] at hx ⊢;exact hx
    ·rw [aB _ _ e'] at hx ⊢;exact gle _ _ hx
   ·have e':x≠b:=λe'=>by rw [e',g3] at hn;cases hn
    rw [aB _ _ e'];exact hx
  have hent:=D8 (e:=e) hr' hL.st (au F b (.mapIter (ZO r) c ((done.map (·.born)).toArray.push e.born) c)) he;rw [e1] at hent ⊢;exact step k e.val _ e2 hk hlt hst hr' hent
where
 p5:∀{l:List MapEntry},(l.map (·.key)).Nodup->∀{a b:MapEntry},a∈l->b∈l->a.key=b.key->a=b
  |[],_,_,_,ha,_,_=>by simp at ha
  |x::l,h,a,b,ha,hb,e=>by
   rw [Yf,YL] at h;rcases XP.1 ha with ha|ha<;>rcases XP.1 hb with hb|hb
   ·rw [ha,hb]
   ·exact absurd (X1.2 ⟨b,hb,by rw [<- e,ha]⟩) h.1
   ·exact absurd (X1.2 ⟨a,ha,by rw [e,hb]⟩) h.1
   ·exact p5 h.2 ha hb e
end
end
