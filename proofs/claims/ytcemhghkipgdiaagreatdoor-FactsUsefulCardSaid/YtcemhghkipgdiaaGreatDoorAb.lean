/-
  Derivations in one configuration, and the least sets that are closed under productions.
-/
import Derived.Test.YtcemhghkipgdiaaGreatDoorIt
import Derived.Test.YtcemhghkipgdiaaGreatDoorQm
import Derived.Test.YtcemhghkipgdiaaGreatDoorFb
namespace Go.Proofs.YtcemhghkipgdiaaGreatDoor
open Go Go.Proofs.Tryz Tr
set_option maxRecDepth 10000
instance decSy (q:Option Sy):Decidable (∃s,q=some s/\s.t=true):=
 match q with
 |none=>isFalse λ⟨_,h,_⟩=>by cases h
 |some s=>if h:s.t=true then isTrue ⟨s,rfl,h⟩ else isFalse λ⟨_,h1,h2⟩=>by cases h1;exact h h2
instance decEntry (r:List Sy) (k v lo hi:Int):Decidable (ee r k v lo hi):=by unfold ee;infer_instance
instance decLay (r:List Sy) (x:Cn):Decidable (xN r x):=by unfold xN;infer_instance
instance decBrk (p:Pr):Decidable (xO p):=by unfold xO;infer_instance
instance decDet (p:Pr):Decidable (mD p):=by unfold mD;infer_instance
def Kq (nn:Nat) (p:Pr):Prop:=(0<=p.left/\p.left<nn)/\p.right.length<=5/\(∀s∈p.right,0<=s.i/\(s.t=true->s.i<9)/\(s.t=false->s.i<nn))/\(-1<=p.rank/\p.rank<=1)/\p.lay.length<=2/\mD p/\(p.name≠emp/\p.name.size<=13)
instance decPri (nn:Nat) (p:Pr):Decidable (Kq nn p):=by unfold Kq;infer_instance
theorem aZ {n nn:Nat} {p:Pr} (h:Kq nn p) (hc:SxD n p.cond):PrI n nn p:=by obtain ⟨h1,h2,h3,h4,h5,h6,h7⟩:=h;exact ⟨hc,h1,h2,h3,h4,h5,h6,h7⟩
theorem dQ {n v:Nat} (hv:v<n) (hn:n<=6):SxD n (dia (tv v)):=⟨_,Sx.tv hv hn,rfl⟩
theorem oB {n v:Nat} (hv:v<n) (hn:n<=6):SxD n (cX v):=⟨_,(Sx.tv hv hn).ap2 (Sx.leaf n true),rfl⟩
def CN (s:ByteArray):Prop:=s.size≠2\/s.data[0]?≠some 112
instance (s:ByteArray):Decidable (CN s):=by unfold CN;infer_instance
theorem Gf {s:ByteArray} (h:CN s) (k:Nat):s≠be k:=by
 intro e;rcases h with h|h
 ·exact h (by rw [e];rfl)
 ·exact h (by rw [e];rfl)
theorem nA {g:Gr} {n:Nat} (hn:n<=3) (hc:g.conds=abc.take n) (hf:g.fam=aK) (ht:g.toks=dX) (hs:g.start=0) (h1:bz g.nons) (h2:∀s∈g.nons,s.size<=10) (h3:(g.prods.map Pr.name).Nodup) (h4:∀s∈g.prods.map Pr.name,CN s)
  (h5:∀p∈g.prods,PrI g.conds.length g.nons.length p) (h6:eI g [] g.lvs/\∀l∈g.lvs,SxD g.conds.length l.cond) (h7:∀x∈g.fils,ce g x/\SxD g.conds.length x.cond/\x.toks.length<=2):MG g:=by
 have e:dX.map sC=dX:=rfl;refine ⟨⟨n,hn,hc⟩,⟨_,Sx.leaf _ true,by simp,hf⟩,⟨h1,h2⟩,hs,⟨by rw [ht];exact e,λt htm=> ?_⟩,⟨h3,λp hp k _ _=>Gf (h4 _ (List.mem_map_of_mem hp)) k⟩,h5,h6,h7⟩;rw [ht,<- e] at htm;obtain ⟨u,_,rfl⟩:=Tw.1 htm;exact aR _
theorem Gg {g:Gr} (ht:g.toks=dX) (i:Nat) {kd:Tk->Bool} {t:Tk} (h:dX[i]? =some t) (hk:kd t=true):0<=(i:Int)/\∃t,g.toks[(i:Int).toNat]? =some t/\kd t=true:=⟨by omega,t,by rw [ht,N6];exact h,hk⟩
theorem MA {g:Gr} {kd:Tk->Bool} {i:Int} (h:0<=i/\∃t,g.toks[i.toNat]? =some t/\kd t=true):fK g kd [i]:=by refine ⟨by simp,λn hn=>by rw [Ti.1 hn];exact h,λj x y _ hy=> ?_⟩;simp at hy
theorem Q2 {g:Gr} {kd:Tk->Bool} {i j:Int} (h:0<=i/\∃t,g.toks[i.toNat]? =some t/\kd t=true) (h':0<=j/\∃t,g.toks[j.toNat]? =some t/\kd t=true) (hij:i<j):fK g kd [i,j]:=by
 refine ⟨by simp,λn hn=> ?_,λk x y hx hy=> ?_⟩
 ·rcases Th.1 hn with rfl|hn
  ·exact h
  ·rw [Ti.1 hn];exact h'
 ·match k with
  |0=>simp at hx hy;subst hx hy;exact hij
  |k+1=>simp at hy
theorem pE:MG cw:=by
 refine nA (n:=2) (by decide) rfl rfl rfl rfl (by unfold bz;decide) (by decide) (by decide) (by decide) (λp hp=> ?_) ⟨?_,?_⟩ ?_
 ·rcases Th.1 hp with rfl|hp
  ·exact aZ (by decide) (aR _)
  rcases Th.1 hp with rfl|hp
  ·exact aZ (by decide) (aR _)
  rcases Th.1 hp with rfl|hp
  ·exact aZ (by decide) (aR _)
  rcases Th.1 hp with rfl|hp
  ·exact aZ (by decide) (aR _)
  rcases Th.1 hp with rfl|hp
  ·exact aZ (by decide) (dQ (by decide) (by decide))
  cases hp
 ·refine ⟨⟨by decide,by decide,(aR 2).fit (by decide),by decide,by decide,by decide⟩,⟨by decide,by decide,(aR 2).fit (by decide),by decide,by decide,by decide⟩,⟨by decide,by decide,(oB (n:=2) (v:=0) (by decide) (by decide)).fit (by decide),by decide,by decide,by decide⟩,trivial⟩
 ·intro l hl;rcases Th.1 hl with rfl|hl
  ·exact aR _
  rcases Th.1 hl with rfl|hl
  ·exact aR _
  rcases Th.1 hl with rfl|hl
  ·exact oB (by decide) (by decide)
  cases hl
 ·intro x hx;cases hx
theorem rW:MG ca:=by
 refine nA (n:=2) (by decide) rfl rfl rfl rfl (by unfold bz;decide) (by decide) (by decide) (by decide) (λp hp=> ?_) ⟨?_,?_⟩ ?_
 ·rcases Th.1 hp with rfl|hp
  ·exact aZ (by decide) (aR _)
  rcases Th.1 hp with rfl|hp
  ·exact aZ (by decide) (aR _)
  rcases Th.1 hp with rfl|hp
  ·exact aZ (by decide) (aR _)
  rcases Th.1 hp with rfl|hp
  ·exact aZ (by decide) (aR _)
  rcases Th.1 hp with rfl|hp
  ·exact aZ (by decide) (aR _)
  cases hp
 ·trivial
 ·intro l hl;cases hl
 ·intro x hx;rcases Th.1 hx with rfl|hx
  ·exact ⟨⟨(dQ (n:=2) (v:=0) (by decide) (by decide)).fit (by decide),.inl ⟨.inr rfl,⟨by decide,by decide,by decide,_,_,rfl,rfl,rfl⟩,rfl,rfl,rfl⟩⟩,dQ (by decide) (by decide),by decide⟩
  rcases Th.1 hx with rfl|hx
  ·exact ⟨⟨(dQ (n:=2) (v:=1) (by decide) (by decide)).fit (by decide),.inr (.inr ⟨rfl,⟨Q2 (Gg rfl 5 rfl (by decide)) (Gg rfl 6 rfl (by decide)) (by decide),by decide,_,rfl,rfl,rfl⟩,rfl,rfl,rfl,rfl⟩)⟩,dQ (by decide) (by decide),by decide⟩
  cases hx
theorem og:MG cU:=by
 refine nA (n:=2) (by decide) rfl rfl rfl rfl (by unfold bz;decide) (by decide) (by decide) (by decide) (λp hp=> ?_) ⟨?_,?_⟩ ?_
 ·rcases Th.1 hp with rfl|hp
  ·exact aZ (by decide) (aR _)
  rcases Th.1 hp with rfl|hp
  ·exact aZ (by decide) (aR _)
  rcases Th.1 hp with rfl|hp
  ·exact aZ (by decide) (aR _)
  rcases Th.1 hp with rfl|hp
  ·exact aZ (by decide) (aR _)
  rcases Th.1 hp with rfl|hp
  ·exact aZ (by decide) (aR _)
  rcases Th.1 hp with rfl|hp
  ·exact aZ (by decide) (aR _)
  rcases Th.1 hp with rfl|hp
  ·exact aZ (by decide) (dQ (by decide) (by decide))
  cases hp
 ·trivial
 ·intro l hl;cases hl
 ·intro x hx;cases hx
theorem Bu:MG ju:=by
 refine nA (n:=2) (by decide) rfl rfl rfl rfl (by unfold bz;decide) (by decide) (by decide) (by decide) (λp hp=> ?_) ⟨?_,?_⟩ ?_
 ·rcases Th.1 hp with rfl|hp
  ·exact aZ (by decide) (aR _)
  rcases Th.1 hp with rfl|hp
  ·exact aZ (by decide) (aR _)
  rcases Th.1 hp with rfl|hp
  ·exact aZ (by decide) (aR _)
  rcases Th.1 hp with rfl|hp
  ·exact aZ (by decide) (aR _)
  rcases Th.1 hp with rfl|hp
  ·exact aZ (by decide) (dQ (by decide) (by decide))
  cases hp
 ·trivial
 ·intro l hl;cases hl
 ·intro x hx;cases hx
theorem xy:MG gC:=by
 refine nA (n:=2) (by decide) rfl rfl rfl rfl (by unfold bz;decide) (by decide) (by decide) (by decide) (λp hp=> ?_) ⟨?_,?_⟩ ?_
 ·rcases Th.1 hp with rfl|hp
  ·exact aZ (by decide) (aR _)
  rcases Th.1 hp with rfl|hp
  ·exact aZ (by decide) (aR _)
  rcases Th.1 hp with rfl|hp
  ·exact aZ (by decide) (aR _)
  rcases Th.1 hp with rfl|hp
  ·exact aZ (by decide) (aR _)
  rcases Th.1 hp with rfl|hp
  ·exact aZ (by decide) (aR _)
  rcases Th.1 hp with rfl|hp
  ·exact aZ (by decide) (dQ (by decide) (by decide))
  cases hp
 ·trivial
 ·intro l hl;cases hl
 ·intro x hx;rcases Th.1 hx with rfl|hx
  ·exact ⟨⟨(dQ (n:=2) (v:=0) (by decide) (by decide)).fit (by decide),.inr (.inl ⟨.inl rfl,⟨by decide,by decide,MA (Gg rfl 0 rfl (by decide))⟩,rfl,rfl,rfl,rfl⟩)⟩,dQ (by decide) (by decide),by decide⟩
  rcases Th.1 hx with rfl|hx
  ·exact ⟨⟨(oB (n:=2) (v:=1) (by decide) (by decide)).fit (by decide),.inr (.inl ⟨.inr rfl,⟨by decide,by decide,MA (Gg rfl 1 rfl (by decide))⟩,rfl,rfl,rfl,rfl⟩)⟩,oB (by decide) (by decide),by decide⟩
  cases hx
theorem xz:MG gD:=by
 refine nA (n:=2) (by decide) rfl rfl rfl rfl (by unfold bz;decide) (by decide) (by decide) (by decide) (λp hp=> ?_) ⟨?_,?_⟩ ?_
 ·rcases Th.1 hp with rfl|hp
  ·exact aZ (by decide) (aR _)
  rcases Th.1 hp with rfl|hp
  ·exact aZ (by decide) (aR _)
  rcases Th.1 hp with rfl|hp
  ·exact aZ (by decide) (aR _)
  rcases Th.1 hp with rfl|hp
  ·exact aZ (by decide) (aR _)
  rcases Th.1 hp with rfl|hp
  ·exact aZ (by decide) (dQ (by decide) (by decide))
  cases hp
 ·trivial
 ·intro l hl;cases hl
 ·intro x hx;cases hx
theorem CO {k:Nat} (hk:k<6):MG (cd k):=by
 have h:k=0\/k=1\/k=2\/k=3\/k=4\/k=5:=by omega
 rcases h with rfl|rfl|rfl|rfl|rfl|rfl
 ·exact pE
 ·exact rW
 ·exact og
 ·exact Bu
 ·exact xy
 ·exact xz
theorem CP (x:Rw):MG (de x):=by
 unfold de;split
 ·rename_i h;exact CO (of_decide_eq_true h)
 ·have hn:(fk x).length≠0:=by unfold fk;rw [TA];simp
  refine nA (n:=x.n % 4) (by omega) rfl rfl rfl rfl ?_ (λs hs=> ?_) (by show ([⟨#[102,105,114,115,116]⟩]:List ByteArray).Nodup;simp) (λs hs=>by rw [Ti.1 (show s∈([⟨#[102,105,114,115,116]⟩]:List ByteArray) from hs)];decide) (λp hp=> ?_) ⟨trivial,λl hl=>(by cases hl)⟩ λx hx=>by cases hx
  ·have h:x.n / 4 % 3=0\/x.n / 4 % 3=1\/x.n / 4 % 3=2:=by omega
   show bz (fk x);unfold fk;rcases h with h|h|h<;>rw [h]<;>(unfold bz;decide)
  ·have:∀s∈([⟨#[83]⟩,⟨#[80]⟩,⟨#[81]⟩]:List ByteArray),s.size<=10:=by decide
   exact this s (UU hs)
  ·rw [Ti.1 hp];refine aZ ⟨⟨by decide,?_⟩,by decide,?_,by decide,by decide,by decide,by decide⟩ (aR _)
   ·show (0:Int)<(fk x).length;omega
   ·intro s hs;rw [Ti.1 hs];exact ⟨by decide,λ_=>by decide,λh=>(by cases h)⟩
theorem zC (x:Rw):MG (cZ x)/\Bd (cZ x) 18 10:=by
 have hm:cD x<=10:=by unfold cD;split<;>decide
 have b1:=CU (x:=x) (pI x);have m1:=(CP x).famG (pI x) x;have b2:=pJ (x:=x) (x.lines.take (cD x)) b1;have hl:(x.lines.take (cD x)).length<=10:=by rw [TA];omega
 have hr:(x.rules.take 6).length<=6:=by rw [TA];omega
 have m2:=MG.lines (x:=x) (x.lines.take (cD x)) m1 b1 (by omega);have b3:=pK (x.rules.take 6) b2;have m3:=MG.rules (x.rules.take 6) m2 b2;refine ⟨m3,?_⟩;obtain ⟨c1,c2,c3,c4,c5,c6,c7,c8,c9⟩:=b3;exact ⟨c1,c2,c3,c4,by unfold cZ;omega,c6,by unfold cZ;omega,c8,by unfold cZ;omega⟩
section
end
section
end
section
end
section
end
section
end
section
end
end Go.Proofs.YtcemhghkipgdiaaGreatDoor
namespace Go.Proofs.YtcemhghkipgdiaaGreatDoor
open Go Go.ChangeShapes Go.WideShapes Go.ChangeAt Go.RowKit Go.Deep Go.Proofs.Tryz
set_option maxRecDepth 100000
section
variable {H:Type} {enc:TypeId×Value->H} {P:Program} {W:World}
theorem vP {α:Type} {cells:α->Ξ} {k:Nat} (hk:∀o,(cells o).length=k):∀{os:List α} {i j:Nat},j<k->(os.flatMap cells)[i*k+j]? =(os[i]?).bind λo=>(cells o)[j]?
 |[],i,j,_=>by simp
 |o::os,0,j,hj=>by rw [T4,Us,Tz,Tt (by rw [hk];exact hj)];rfl
 |o::os,i+1,j,hj=>by rw [T4,TM (by rw [hk,UD];omega),hk,show (i+1)*k+j - k=i*k+j by rw [UD];omega,vP hk hj];rfl
theorem iP {α:Type} {cells:α->Ξ} {k:Nat} (hk:∀o,(cells o).length=k):∀os:List α,(os.flatMap cells).length=os.length*k
 |[]=>by simp
 |o::os=>by rw [T4,Tn,hk,iP hk os,TC,UD,Nat.add_comm]
theorem ml {α:Type} [Inhabited α] {t e k:Nat} {cells:α->Ξ} {Q:α->Prop} (ht:P.underlying t=some (.slice e)) (hk:P.cellsOf e=k) (hk0:0<k) (hlen:∀o,(cells o).length=k)
  (elem:∀{fuel:Nat} {cs:Ξ} {x:DataW H×List MemPlace},DataW.trod enc P W 0 (λ_=>true) true fuel e cs=some x->(x.1.weights P e).all (·<=reachBytes)=true->∃o,cs=cells o/\Q o)
  {fuel:Nat} {c:Value} {x:DataW H×List MemPlace} (h:DataW.trod enc P W 0 (λ_=>true) true fuel t [c]=some x) (hw:(x.1.weights P t).all (·<=reachBytes)=true):
  ∃(sl:Sl) (os:List α),c=Sl.v sl/\RdS (hF W) sl k (os.flatMap cells)/\(∀o∈os,Q o)/\os.length=sl.len/\sl.len*P.bytesOf e<=reachBytes:=by
 rcases open_slice ht h with ⟨hcs,rfl⟩|⟨a,len,cap,m,n,D,Pl,hcs,_,hl,hm,hmm,rfl,hx⟩
 ·cases hcs;exact ⟨Sl.nil,[],rfl,RdS.nil _ _,by simp,rfl,by simp [Sl.nil]⟩
 ·cases hcs;simp only [if_true] at hmm;subst hmm;rw [hk] at hx;have hwD:∀i,i<len->((D i).weights P e).all (·<=reachBytes)=true:=λi hi=>by
   rw [TU] at hw ⊢;intro y hy;refine hw y ?_;simp only [DataW.weights,ht];refine TB _ (US _ ?_);have gen:∀(l:List (DataW H)) (d:DataW H),d∈l->∀y∈d.weights P e,y∈DataW.weightsAll P e l:=by
    intro l;induction l with
    |nil=>intro d hd;cases hd
    |cons a l ih=>
     intro d hd y hy;simp only [DataW.weightsAll,Tm];rcases Th.1 hd with rfl|hd
     ·exact .inl hy
     ·exact .inr (ih d hd y hy)
   exact gen _ (D i) (Tw.2 ⟨i,Ua.2 hi,rfl⟩) y hy
  have hb:m*P.bytesOf e<=reachBytes:=by simp only [DataW.weights,ht,UW,T3,decide_eq_true_eq,Tu,TW] at hw;rw [show len+(m - len)=m by omega] at hw;exact hw.1
  have ho:∀i,i<len->∃o:α,W.cells? 0 (a.add (i*k)) k=some (cells o)/\Q o:=λi hi=>by obtain ⟨cs,h1,h2⟩:=hx i (by omega);obtain ⟨o,rfl,h3⟩:=elem h2 (hwD i hi);exact ⟨o,h1,h3⟩
  obtain ⟨O,hO⟩:=choose_lt ho;refine ⟨⟨some a,len,m⟩,(List.range len).map O,rfl,⟨?_,hl,λhp=> ?_⟩,?_,by simp,Ut (Un _ hl) hb⟩
  ·rw [iP hlen];simp
  ·simp only at hp;have h0:=(World.cells?_some (hO 0 (by omega)).1).2.2 0 hk0;obtain ⟨v0,hv0⟩:∃v,(cells (O 0))[0]? =some v:=⟨_,N4 (by rw [hlen];exact hk0)⟩;have hs:=World.cell?_spot (v:=v0) (by rw [h0];exact hv0);obtain ⟨b,o,spot⟩:=a;simp [Addr.add] at hs;subst hs;refine ⟨b,o,rfl,λi hi=> ?_⟩;rw [iP hlen,Tu,TW] at hi;have hik:i / k<len:=Nat.div_lt_of_lt_mul (by rw [Nat.mul_comm];exact hi);have hr:i % k<k:=Ui _ hk0;have h1:=(World.cells?_some (hO (i / k) hik).1).2.2 (i % k) hr;have h2:=vP hlen (os:=(List.range len).map O) (i:=i / k) (j:=i % k) hr;have hdm:i / k*k+i % k=i:=by rw [Nat.mul_comm];exact Nat.div_add_mod i k
   rw [hdm] at h2;rw [<- N4,h2];simp only [Tx,T1 hik,T8,Option.bind_some];rw [<- h1,aC,aC,Nat.add_assoc,hdm];rfl
  ·intro o ho;obtain ⟨i,hi,rfl⟩:=Tw.1 ho;exact (hO i (Ua.1 hi)).2
end
section
variable {H:Type} {enc:TypeId×Value->H} {W:World}
instance:Inhabited (Ln×Sl):=⟨⟨⟨0,[],0,0⟩,Sl.nil⟩⟩
instance:Inhabited Ru:=⟨⟨0,0,0,0,0⟩⟩
theorem CQ:prog.cellsOf 22=1:=by kernel_rfl
theorem tX:prog.cellsOf 91=4:=by kernel_rfl
theorem zE:prog.cellsOf 131=5:=by kernel_rfl
theorem Gh:prog.cellsOf 26=5:=by kernel_rfl
theorem Gi:prog.cellsOf 23=1:=by kernel_rfl
theorem Gj:prog.cellsOf 24=1:=by kernel_rfl
theorem fg {z:Int} (h:(Lit.int .u8 z).wf=true):∃n:Nat,z=n/\n<256:=by obtain ⟨h1,h2⟩:=L7 h;exact ⟨z.toNat,by omega,by omega⟩
theorem pF {fuel:Nat} {c:Value} {x:DataW H×List MemPlace} (h:DataW.trod enc prog W 0 (λ_=>true) true fuel 22 [c]=some x) (hw:(x.1.weights prog 22).all (·<=reachBytes)=true):
  ∃(sl:Sl) (ns:Δ),c=Sl.v sl/\RdS (hF W) sl 1 (ns.map vB)/\(∀n∈ns,n<256)/\ns.length<=9000000000000000:=by
 obtain ⟨sl,zs,rfl,hr,hz,hb,_⟩:=EI underlying22 underlying5 qI h hw;have e:(zs.map Int.toNat).map vB=zs.map (Value.int .u8):=by rw [List.map_map];refine UH λz hz'=> ?_;obtain ⟨n,rfl,_⟩:=fg (hz z hz');simp only [Function.comp,N6]
 refine ⟨sl,zs.map Int.toNat,rfl,by rw [e];exact hr,λn hn=> ?_,by rw [Tu];exact HD hr hb⟩;obtain ⟨z,hz',rfl⟩:=Tw.1 hn;obtain ⟨n,rfl,hn'⟩:=fg (hz z hz');rw [N6];exact hn'
theorem ss {fuel:Nat} {cs:Ξ} {x:DataW H×List MemPlace} (h:DataW.trod enc prog W 0 (λ_=>true) true fuel 91 cs=some x) (hw:(x.1.weights prog 91).all (·<=reachBytes)=true):
  ∃o:Ln×Sl,cs=[vB o.1.left,o.2.v,vB o.1.cond,vB o.1.mark]/\(RdS (hF W) o.2 1 (o.1.right.map vB)/\o.1.left<256/\o.1.cond<256/\o.1.mark<256/\∀y∈o.1.right,y<256):=by
 obtain ⟨xs,n,_,rfl,hl,hxl,hf⟩:=DataW.trod_struct underlying91 h;rw [tX] at hl
 match cs,hl with
 |[c0,c1,c2,c3],_=>
 match xs,hxl with
 |[x0,x1,x2,x3],_=>
 have f0:=hf 0 _ rfl;have f1:=hf 1 _ rfl;have f2:=hf 2 _ rfl;have f3:=hf 3 _ rfl;simp only [List.getElem?_cons_zero,T9] at f0 f1 f2 f3;obtain ⟨z0,e0,_,w0⟩:=DataW.trod_int underlying5 f0;obtain ⟨z2,e2,_,w2⟩:=DataW.trod_int underlying5 f2;obtain ⟨z3,e3,_,w3⟩:=DataW.trod_int underlying5 f3;cases e0;cases e2;cases e3;have hw1:(x1.1.weights prog 22).all (·<=reachBytes)=true:=by rw [TU] at hw ⊢;intro y hy;refine hw y ?_;simp only [DataW.weights,underlying91];exact DataW.weights_mem_each (j:=1) rfl rfl y hy
 obtain ⟨sl,ns,rfl,hr,hn,_⟩:=pF f1 hw1;obtain ⟨n0,rfl,k0⟩:=fg w0;obtain ⟨n2,rfl,k2⟩:=fg w2;obtain ⟨n3,rfl,k3⟩:=fg w3;exact ⟨⟨⟨n0,ns,n2,n3⟩,sl⟩,rfl,hr,k0,k2,k3,hn⟩
theorem Bv {fuel:Nat} {cs:Ξ} {x:DataW H×List MemPlace} (h:DataW.trod enc prog W 0 (λ_=>true) true fuel 131 cs=some x) (_hw:(x.1.weights prog 131).all (·<=reachBytes)=true):
  ∃o:Ru,cs=[vB o.kind,vB o.a,vB o.b,vB o.c,vB o.cond]/\(o.kind<256/\o.a<256/\o.b<256/\o.c<256/\o.cond<256):=by
 obtain ⟨xs,n,_,rfl,hl,hxl,hf⟩:=DataW.trod_struct underlying131 h;rw [zE] at hl
 match cs,hl with
 |[c0,c1,c2,c3,c4],_=>
 match xs,hxl with
 |[x0,x1,x2,x3,x4],_=>
 have f0:=hf 0 _ rfl;have f1:=hf 1 _ rfl;have f2:=hf 2 _ rfl;have f3:=hf 3 _ rfl;have f4:=hf 4 _ rfl;simp only [List.getElem?_cons_zero,T9] at f0 f1 f2 f3 f4;obtain ⟨z0,e0,_,w0⟩:=DataW.trod_int underlying5 f0;obtain ⟨z1,e1,_,w1⟩:=DataW.trod_int underlying5 f1;obtain ⟨z2,e2,_,w2⟩:=DataW.trod_int underlying5 f2;obtain ⟨z3,e3,_,w3⟩:=DataW.trod_int underlying5 f3;obtain ⟨z4,e4,_,w4⟩:=DataW.trod_int underlying5 f4;cases e0;cases e1;cases e2;cases e3;cases e4;obtain ⟨n0,rfl,k0⟩:=fg w0;obtain ⟨n1,rfl,k1⟩:=fg w1;obtain ⟨n2,rfl,k2⟩:=fg w2;obtain ⟨n3,rfl,k3⟩:=fg w3;obtain ⟨n4,rfl,k4⟩:=fg w4;exact ⟨⟨n0,n1,n2,n3,n4⟩,rfl,k0,k1,k2,k3,k4⟩
theorem oC {α β:Type} [Mem β] {F:PH} {cells:α->Ξ} {f:α->β}:∀{os:List α},(∀o∈os,Mem.rep F (f o) (cells o).toArray)->cO F (os.map f) (os.map λo=>(cells o).toArray)
 |[],_=> .nil
 |o::os,h=> .cons (h o (by simp)) (oC λx hx=>h x (by simp [hx]))
theorem xA {α:Type} (cells:α->Ξ) (os:List α):cat (os.map λo=>(cells o).toArray)=os.flatMap cells:=by unfold cat;rw [List.flatMap_map]
theorem CR {fuel:Nat} {cs:Γ} {x:DataW H×List MemPlace} (h:DataW.trod enc prog W 0 (λ_=>true) true fuel 26 cs.toList=some x) (hw:(x.1.weights prog 26).all (·<=reachBytes)=true):
  ∃r:Rw,xE (hF W) cs r:=by
 obtain ⟨xs,n,_,rfl,hl,hxl,hf⟩:=DataW.trod_struct underlying26 h;rw [Gh] at hl;obtain ⟨cs⟩:=cs
 match cs,hl with
 |[c0,c1,c2,c3,c4],_=>
 match xs,hxl with
 |[x0,x1,x2,x3,x4],_=>
 have f0:=hf 0 _ rfl;have f1:=hf 1 _ rfl;have f2:=hf 2 _ rfl;have f3:=hf 3 _ rfl;have f4:=hf 4 _ rfl;simp only [List.getElem?_cons_zero,T9] at f0 f1 f2 f3 f4;obtain ⟨z0,e0,_,w0⟩:=DataW.trod_int underlying5 f0;obtain ⟨z1,e1,_,w1⟩:=DataW.trod_int underlying5 f1;cases e0;cases e1;have hw2:(x2.1.weights prog 22).all (·<=reachBytes)=true:=by rw [TU] at hw ⊢;intro y hy;refine hw y ?_;simp only [DataW.weights,underlying26];exact DataW.weights_mem_each (j:=2) rfl rfl y hy
 have hw3:(x3.1.weights prog 23).all (·<=reachBytes)=true:=by rw [TU] at hw ⊢;intro y hy;refine hw y ?_;simp only [DataW.weights,underlying26];exact DataW.weights_mem_each (j:=3) rfl rfl y hy
 have hw4:(x4.1.weights prog 24).all (·<=reachBytes)=true:=by rw [TU] at hw ⊢;intro y hy;refine hw y ?_;simp only [DataW.weights,underlying26];exact DataW.weights_mem_each (j:=4) rfl rfl y hy
 obtain ⟨sf,ns,rfl,hr2,hn2,_⟩:=pF f2 hw2;obtain ⟨sl,ls,rfl,hr3,hq3,_,_⟩:=ml (k:=4) (cells:=λo:Ln×Sl=>[vB o.1.left,o.2.v,vB o.1.cond,vB o.1.mark]) underlying23 tX (by decide) (λ_=>rfl) ss f3 hw3;obtain ⟨sr,rs,rfl,hr4,hq4,_,_⟩:=ml (k:=5) (cells:=λo:Ru=>[vB o.kind,vB o.a,vB o.b,vB o.c,vB o.cond]) underlying24 zE (by decide) (λ_=>rfl) Bv f4 hw4;obtain ⟨n0,rfl,k0⟩:=fg w0;obtain ⟨n1,rfl,k1⟩:=fg w1;refine ⟨⟨n0,n1,ns,ls.map Prod.fst,rs⟩,⟨sf,sl,sr,rfl,hr2,⟨_,oC (f:=Prod.fst) (cells:=λo:Ln×Sl=>[vB o.1.left,o.2.v,vB o.1.cond,vB o.1.mark]) λo ho=> ?_,by rw [xA];exact hr3⟩,⟨_,?_,by rw [xA (λo:Ru=>[vB o.kind,vB o.a,vB o.b,vB o.c,vB o.cond])];exact hr4⟩⟩,k0,k1⟩
 ·obtain ⟨h1,h2⟩:=hq3 o ho;exact ⟨o.2,rfl,h1,h2⟩
 ·have:=oC (F:=hF W) (f:=λo:Ru=>o) (cells:=λo:Ru=>[vB o.kind,vB o.a,vB o.b,vB o.c,vB o.cond]) (os:=rs) λo ho=>⟨rfl,hq4 o ho⟩;rw [List.map_id'] at this;exact this
end
set_option maxRecDepth 100000
section
variable {H:Type} {enc:TypeId×Value->H} {W:World}
theorem xB {fuel:Nat} {c:Value} {x:DataW H×List MemPlace} (h:DataW.trod enc prog W 0 (λ_=>true) true fuel 23 [c]=some x) (hw:(x.1.weights prog 23).all (·<=reachBytes)=true):
  ∃(sl:Sl) (ls:List Ln),c=Sl.v sl/\RL (hF W) sl ls:=by
 obtain ⟨sl,ls,rfl,hr3,hq3,_,_⟩:=ml (k:=4) (cells:=λo:Ln×Sl=>[vB o.1.left,o.2.v,vB o.1.cond,vB o.1.mark]) underlying23 tX (by decide) (λ_=>rfl) ss h hw;refine ⟨sl,ls.map Prod.fst,rfl,_,oC (f:=Prod.fst) (cells:=λo:Ln×Sl=>[vB o.1.left,o.2.v,vB o.1.cond,vB o.1.mark]) λo ho=> ?_,by rw [xA];exact hr3⟩;obtain ⟨h1,h2⟩:=hq3 o ho;exact ⟨o.2,rfl,h1,h2⟩
end
end Go.Proofs.YtcemhghkipgdiaaGreatDoor
namespace Go.Proofs.YtcemhghkipgdiaaGreatDoor
open Go Go.Proofs.Tryz Tr
theorem pG {k:Nat}:∀{t:Tr},dY k t->∀{c d:Cf},(∀i,i<k->c i=d i)->t.ev c=t.ev d
 |leaf _,_,_,_,_=>rfl
 |node v l h,⟨h1,h2,h3⟩,c,d,hc=>by simp only [Tr.ev];rw [hc v h1,pG h2 hc,pG h3 hc]
def xC (c:Cf):Nat->Nat
 |0=>0
 |k+1=>xC c k+if c k=true then 2 ^ k else 0
theorem tY (c:Cf):∀k,xC c k<2 ^ k
 |0=>Nat.one_pos
 |k+1=>by have:=tY c k;rw [Nat.pow_succ,xC];split<;>omega
theorem pH (c:Cf):∀{k i:Nat},i<k->(xC c k).testBit i=c i
 |0,_,h=>by omega
 |k+1,i,h=>by
  have hlt:=tY c k;rw [xC];by_cases e:i=k
  ·subst e;by_cases hc:c i=true
   ·rw [if_pos hc,Nat.add_comm,Nat.testBit_two_pow_add_eq,Nat.testBit_lt_two_pow hlt,hc];rfl
   ·rw [if_neg hc,UF,Nat.testBit_lt_two_pow hlt];simpa using (T5.2 hc).symm
  ·have hi:i<k:=by omega
   by_cases hc:c k=true
   ·rw [if_pos hc,Nat.add_comm,Nat.testBit_two_pow_add_gt hi];exact pH c hi
   ·rw [if_neg hc,UF];exact pH c hi
theorem sA {α:Type} {p q:α->Bool}:∀{l:List α},(∀x∈l,p x=true->q x=true)->(l.filter p).length<=(l.filter q).length/\∀x∈l,q x=true->p x=false->(l.filter p).length<(l.filter q).length
 |[],_=>⟨Tj _,λ_ h=>by cases h⟩
 |y::l,h=>by
  obtain ⟨h1,h2⟩:=sA (l:=l) λx hx=>h x (TB _ hx);have hy:=h y (by simp);have e1:((y::l).filter p).length=(l.filter p).length+if p y=true then 1 else 0:=by rw [List.filter_cons];split<;>simp
  have e2:((y::l).filter q).length=(l.filter q).length+if q y=true then 1 else 0:=by rw [List.filter_cons];split<;>simp
  rw [e1,e2];refine ⟨?_,λx hx hq hp=> ?_⟩
  ·by_cases hpy:p y=true
   ·rw [if_pos hpy,if_pos (hy hpy)];omega
   ·rw [if_neg hpy];omega
  ·rcases Th.1 hx with rfl|hx
   ·rw [if_pos hq,if_neg (by rw [hp];exact Uz)];omega
   ·have:=h2 x hx hq hp;by_cases hpy:p y=true
    ·rw [if_pos hpy,if_pos (hy hpy)];omega
    ·rw [if_neg hpy];omega
def wt (k:Nat) (t:Tr):Nat:=((List.range (2 ^ k)).filter λm=>t.ev λi=>m.testBit i).length
theorem In (k:Nat) (t:Tr):wt k t<=2 ^ k:=by unfold wt;exact Ut (List.length_filter_le _ _) (by rw [TW];exact Tj _)
theorem MB {k:Nat} {a b:Tr} (ha:Sx k a) (hb:Sx k b) (hle:∀c,a.ev c=true->b.ev c=true):wt k a<=wt k b/\(a≠b->wt k a<wt k b):=by
 obtain ⟨h1,h2⟩:=sA (p:=λm:Nat=>a.ev λi=>m.testBit i) (q:=λm=>b.ev λi=>m.testBit i) (l:=List.range (2 ^ k)) λx _=>hle _;refine ⟨h1,λhne=> ?_⟩;have hex:¬∀c,a.ev c=b.ev c:=λh=>hne (cS ha.1 hb.1 h);have ⟨c,hc⟩:∃c,a.ev c≠b.ev c:=Classical.not_forall.1 hex;have e:∀{t:Tr},Sx k t->t.ev (λi=>(xC c k).testBit i)=t.ev c:=λht=>pG ht.2 λi hi=>pH c hi;have hac:a.ev c=false:=by
  cases h:a.ev c with
  |false=>rfl
  |true=>exact absurd (h.trans (hle c h).symm) hc
 refine h2 (xC c k) (Ua.2 (tY c k)) ?_ ?_
 ·show b.ev _=true;rw [e hb];cases h:b.ev c with
  |true=>rfl
  |false=>exact absurd (hac.trans h.symm) hc
 ·show a.ev _=false;rw [e ha,hac]
section
variable {κ:Type} {k:Nat}
def Sxs (k:Nat) (S:κ->Tr):Prop:=∀n,Sx k (S n)
def Lt' (S S':κ->Tr):Prop:=∀n c,(S n).ev c=true->(S' n).ev c=true
theorem Lt'.refl (S:κ->Tr):Lt' S S:=λ_ _ h=>h
theorem Lt'.trans {S T U:κ->Tr} (h:Lt' S T) (h':Lt' T U):Lt' S U:=λn c hc=>h' n c (h n c hc)
theorem Lt'.antisymm {S T:κ->Tr} (hS:Sxs k S) (hT:Sxs k T) (h:Lt' S T) (h':Lt' T S):S=T:=by
 funext n;refine cS (hS n).1 (hT n).1 λc=> ?_;cases e:(S n).ev c with
 |true=>exact (h n c e).symm
 |false=>
  cases e':(T n).ev c with
  |false=>rfl
  |true=>rw [h' n c e'] at e;cases e
def mu (k:Nat) (keys:List κ) (S:κ->Tr):Nat:=(keys.map λn=>2 ^ k - wt k (S n)).sum
theorem zH {S T:κ->Tr} (hS:Sxs k S) (hT:Sxs k T) (h:Lt' S T):∀keys:List κ,mu k keys T<=mu k keys S/\∀n∈keys,S n≠T n->mu k keys T<mu k keys S
 |[]=>⟨Tj _,λ_ h=>by cases h⟩
 |x::l=>by
  obtain ⟨h1,h2⟩:=zH hS hT h l;obtain ⟨w1,w2⟩:=MB (hS x) (hT x) (h x);have a1:=In k (S x);have a2:=In k (T x);have e:∀S:κ->Tr,mu k (x::l) S=(2 ^ k - wt k (S x))+mu k l S:=λS=>by unfold mu;rw [TK,List.sum_cons]
  rw [e,e];refine ⟨by omega,λn hn hne=> ?_⟩;rcases Th.1 hn with rfl|hn
  ·have:=w2 hne;omega
  ·have:=h2 n hn hne;omega
variable [DecidableEq κ]
def eG (S:κ->Tr) (n:κ) (t:Tr):κ->Tr:=λi=>if i=n then t else S i
theorem sB (S:κ->Tr) (n:κ):eG S n (S n)=S:=by
 funext i;unfold eG;split
 ·rename_i e;rw [e]
 ·rfl
theorem Sxs.upd {S:κ->Tr} (h:Sxs k S) {n:κ} {t:Tr} (ht:Sx k t):Sxs k (eG S n t):=λi=>by
 unfold eG;split
 ·exact ht
 ·exact h i
noncomputable def cv (S:κ->Tr) (n:κ) (d:Tr):κ->Tr:=eG S n (ap2 oOr (S n) d)
theorem ft {S:κ->Tr} (h:Sxs k S) {n:κ} {d:Tr} (hd:Sx k d) (i:κ) (c:Cf):(cv S n d i).ev c=((S i).ev c || (decide (i=n) && d.ev c)):=by
 unfold cv eG;by_cases e:i=n
 ·rw [if_pos e,decide_eq_true e,e,(bi (h n).1 hd.1).2];rfl
 ·rw [if_neg e,decide_eq_false e];simp
theorem dp {S:κ->Tr} (h:Sxs k S) {n:κ} {d:Tr} (hd:Sx k d):Sxs k (cv S n d):=h.upd ((h n).ap2 hd)
theorem d9 {S:κ->Tr} (h:Sxs k S) {n:κ} {d:Tr} (hd:Sx k d):Lt' S (cv S n d):=λi c hc=>by rw [ft h hd,hc];rfl
end
inductive Der (l:List Pr) (P:Nat->Tr) (st:Bool) (c:Cf):Int->Prop
 |mk (i:Nat) (x:Pr):l[i]? =some x->(P i).ev c=true->(∀s∈x.right,s.t=true->st=false)->(∀s∈x.right,s.t=false->Der l P st c s.i)->Der l P st c x.left
section
variable {k:Nat} {l:List Pr} {P:Nat->Tr} {st:Bool}
noncomputable def dq (S:Int->Tr):Tr->List Sy->Tr
 |d,[]=>d
 |d,s::r=>dq S (if s.t=true then d else ap2 aX d (S s.i)) r
theorem bl {S:Int->Tr} (hS:Sxs k S):∀(r:List Sy) {d:Tr},Sx k d->Sx k (dq S d r)/\∀c,(dq S d r).ev c=(d.ev c && r.all λs=>s.t || (S s.i).ev c)
 |[],d,hd=>⟨hd,λc=>by simp [dq]⟩
 |s::r,d,hd=>by
  unfold dq;by_cases h:s.t=true
  ·rw [if_pos h];obtain ⟨h1,h2⟩:=bl hS r hd;exact ⟨h1,λc=>by rw [h2,UW,h];simp⟩
  ·rw [if_neg h];obtain ⟨h1,h2⟩:=bl hS r (hd.ap2 (o:=aX) (hS s.i));refine ⟨h1,λc=> ?_⟩;rw [h2,UW,(bi hd.1 (hS s.i).1).2,T5.2 h,UY,Bool.and_assoc]
def fX (st:Bool) (x:Pr):Bool:=st && x.right.any (·.t)
noncomputable def iI (st:Bool) (P:Nat->Tr):Nat->List Pr->(Int->Tr)->Int->Tr
 |_,[],S=>S
 |i,x::l,S=>iI st P (i+1) l (if fX st x=true then S else cv S x.left (dq S (P i) x.right))
theorem fY {S:Int->Tr} (hS:Sxs k S) {i:Nat} (hP:Sx k (P i)) (x:Pr):
  Sxs k (if fX st x=true then S else cv S x.left (dq S (P i) x.right))/\Lt' S (if fX st x=true then S else cv S x.left (dq S (P i) x.right)):=by
 obtain ⟨h1,_⟩:=bl hS x.right hP;split
 ·exact ⟨hS,Lt'.refl S⟩
 ·exact ⟨dp hS h1,d9 hS h1⟩
theorem jX (hP:∀i,Sx k (P i)):∀(l:List Pr) (i:Nat) {S:Int->Tr},Sxs k S->Sxs k (iI st P i l S)/\Lt' S (iI st P i l S)/\∀n,iI st P i l S n≠S n->∃x∈l,x.left=n
 |[],i,S,hS=>⟨hS,Lt'.refl S,λn h=>absurd rfl h⟩
 |x::l,i,S,hS=>by
  obtain ⟨a1,a2⟩:=fY (st:=st) hS (hP i) x;unfold iI;obtain ⟨b1,b2,b3⟩:=jX hP l (i+1) a1;refine ⟨b1,a2.trans b2,λn hn=> ?_⟩;by_cases e:x.left=n
  ·exact ⟨x,by simp,e⟩
  ·have:(if fX st x=true then S else cv S x.left (dq S (P i) x.right)) n=S n:=by
    split
    ·rfl
    ·unfold cv eG;rw [if_neg (Ne.symm e)]
   obtain ⟨y,hy,hl⟩:=b3 n (by rw [this];exact hn);exact ⟨y,TB _ hy,hl⟩
theorem nB (hP:∀i,Sx k (P i)):∀(l:List Pr) (i:Nat) {S:Int->Tr},Sxs k S->iI st P i l S=S->
  ∀(j:Nat) (x:Pr),l[j]? =some x->fX st x=false->∀c,(dq S (P (i+j)) x.right).ev c=true->(S x.left).ev c=true
 |[],_,_,_,_,j,_,h,_=>by simp at h
 |y::l,i,S,hS,he,j,x,hj,hs=>by
  obtain ⟨a1,a2⟩:=fY (st:=st) hS (hP i) y;unfold iI at he;obtain ⟨b1,b2,_⟩:=jX (st:=st) hP l (i+1) a1;have e1:(if fX st y=true then S else cv S y.left (dq S (P i) y.right))=S:=by refine Lt'.antisymm a1 hS ?_ a2;rw [he] at b2;exact b2
  rw [e1] at he;cases j with
  |zero=>simp at hj;subst hj;rw [hs,if_neg Uz] at e1;intro c hc;have:=ft hS (n:=y.left) (bl hS y.right (hP i)).1 y.left c;rw [e1,decide_eq_true rfl,UE] at this;rw [this];rw [UF] at hc;rw [hc,Bool.or_true]
  |succ j=>intro c hc;refine nB hP l (i+1) hS he j x (by simpa using hj) hs c ?_;rw [show i+1+j=i+(j+1) by omega];exact hc
def Snd (l:List Pr) (P:Nat->Tr) (st:Bool) (S:Int->Tr):Prop:=∀n c,(S n).ev c=true->Der l P st c n
theorem vQ (hP:∀i,Sx k (P i)):∀(m:List Pr) (i:Nat) {S:Int->Tr},(∀j x,m[j]? =some x->l[i+j]? =some x)->Sxs k S->Snd l P st S->Snd l P st (iI st P i m S)
 |[],_,_,_,_,h=>h
 |x::m,i,S,hl,hS,h=>by
  obtain ⟨a1,a2⟩:=fY (st:=st) hS (hP i) x;unfold iI;refine vQ hP m (i+1) (λj y hj=>by rw [show i+1+j=i+(j+1) by omega];exact hl (j+1) y (by simpa using hj)) a1 ?_;by_cases hsk:fX st x=true
  ·rw [if_pos hsk];exact h
  ·rw [if_neg hsk];intro n c hc;obtain ⟨f1,f2⟩:=bl hS x.right (hP i);rw [ft hS f1] at hc;rcases UK.1 hc with hc|hc
   ·exact h n c hc
   ·obtain ⟨e,hc⟩:=TH.1 hc;have e:=of_decide_eq_true e;rw [f2] at hc;obtain ⟨h1,h2⟩:=TH.1 hc;rw [TU] at h2;rw [e];refine .mk i x (by have:=hl 0 x rfl;rwa [UF] at this) h1 (λs hs ht=> ?_) λs hs ht=> ?_
    ·cases hst:st with
     |false=>rfl
     |true=>refine absurd ?_ hsk;unfold fX;rw [hst,UE,Um];exact ⟨s,hs,ht⟩
    ·have:=h2 s hs;rw [ht,UY] at this;exact h _ _ this
theorem xD {S:Int->Tr} (hS:Sxs k S) (hP:∀i,Sx k (P i)) (hc:∀(j:Nat) (x:Pr),l[j]? =some x->fX st x=false->∀c,(dq S (P j) x.right).ev c=true->(S x.left).ev c=true) {c:Cf} {n:Int} (h:Der l P st c n):(S n).ev c=true:=by
 induction h with
 |mk i x hi hp ht _ ih=>
  refine hc i x hi ?_ c ?_
  ·unfold fX;cases hst:st with
   |false=>rfl
   |true=>rw [UE,<- UM,Um];rintro ⟨s,hs,h⟩;have:=ht s hs h;rw [hst] at this;cases this
  ·rw [(bl hS x.right (hP i)).2,hp,UE,TU];intro s hs;cases h:s.t with
   |true=>rfl
   |false=>rw [UY];exact ih s hs h
structure eH (k:Nat) (l:List Pr) (P:Nat->Tr) (st:Bool) (S:Int->Tr):Prop where
 sx:Sxs k S
 iff:∀n c,(S n).ev c=true↔Der l P st c n
theorem CS {S:Int->Tr} (hP:∀i,Sx k (P i)) (hS:Sxs k S) (h:Snd l P st S) (he:iI st P 0 l S=S):eH k l P st S:=
 ⟨hS,λn c=>⟨h n c,xD hS hP λj x hj hs c hc=>nB hP l 0 hS he j x hj hs c (by rw [Tz];exact hc)⟩⟩
end
end Go.Proofs.YtcemhghkipgdiaaGreatDoor
