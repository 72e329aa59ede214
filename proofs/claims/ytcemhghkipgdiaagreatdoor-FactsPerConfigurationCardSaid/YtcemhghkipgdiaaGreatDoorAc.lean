/-
  Cycles in one configuration: steps between nonterminals, their transitive closure; closure by intermediate nonterminals.
-/
import Derived.Test.YtcemhghkipgdiaaGreatDoorIt
import Derived.Test.YtcemhghkipgdiaaGreatDoorQm
import Derived.Test.YtcemhghkipgdiaaGreatDoorFr
namespace Go.Proofs.YtcemhghkipgdiaaGreatDoor
open Go Go.Proofs.Tryz Tr
set_option maxRecDepth 10000
instance decSy (q:Option Sy):Decidable (∃s,q=some s/\s.t=true):=
 match q with
 |none=>isFalse λ⟨_,h,_⟩=>by cases h
 |some s=>if h:s.t=true then isTrue ⟨s,rfl,h⟩ else isFalse λ⟨_,h1,h2⟩=>by cases h1;exact h h2
instance decEntry (r:List Sy) (k v lo hi:Int):Decidable (eJ r k v lo hi):=by unfold eJ;infer_instance
instance decLay (r:List Sy) (x:Cn):Decidable (yD r x):=by unfold yD;infer_instance
instance decBrk (p:Pr):Decidable (yF p):=by unfold yF;infer_instance
instance decDet (p:Pr):Decidable (nq p):=by unfold nq;infer_instance
def LN (nn:Nat) (p:Pr):Prop:=(0<=p.left/\p.left<nn)/\p.right.length<=5/\(∀s∈p.right,0<=s.i/\(s.t=true->s.i<9)/\(s.t=false->s.i<nn))/\(-1<=p.rank/\p.rank<=1)/\p.lay.length<=2/\nq p/\(p.name≠emp/\p.name.size<=13)
instance decPri (nn:Nat) (p:Pr):Decidable (LN nn p):=by unfold LN;infer_instance
theorem ba {n nn:Nat} {p:Pr} (h:LN nn p) (hc:SxD n p.cond):PrI n nn p:=by obtain ⟨h1,h2,h3,h4,h5,h6,h7⟩:=h;exact ⟨hc,h1,h2,h3,h4,h5,h6,h7⟩
theorem dZ {n v:Nat} (hv:v<n) (hn:n<=6):SxD n (dia (tv v)):=⟨_,Sx.tv hv hn,rfl⟩
theorem oV {n v:Nat} (hv:v<n) (hn:n<=6):SxD n (dk v):=⟨_,(Sx.tv hv hn).ap2 (Sx.leaf n true),rfl⟩
def Dv (s:ByteArray):Prop:=s.size≠2\/s.data[0]?≠some 112
instance (s:ByteArray):Decidable (Dv s):=by unfold Dv;infer_instance
theorem Ho {s:ByteArray} (h:Dv s) (k:Nat):s≠bi k:=by
 intro e;rcases h with h|h
 ·exact h (by rw [e];rfl)
 ·exact h (by rw [e];rfl)
theorem nW {g:Gr} {n:Nat} (hn:n<=3) (hc:g.conds=abc.take n) (hf:g.fam=aP) (ht:g.toks=dL) (hs:g.start=0) (h1:bE g.nons) (h2:∀s∈g.nons,s.size<=10) (h3:(g.prods.map Pr.name).Nodup) (h4:∀s∈g.prods.map Pr.name,Dv s)
  (h5:∀p∈g.prods,PrI g.conds.length g.nons.length p) (h6:eB g [] g.lvs/\∀l∈g.lvs,SxD g.conds.length l.cond) (h7:∀x∈g.fils,bZ g x/\SxD g.conds.length x.cond/\x.toks.length<=2):MG g:=by
 have e:dL.map qh=dL:=rfl;refine ⟨⟨n,hn,hc⟩,⟨_,Sx.leaf _ true,by simp,hf⟩,⟨h1,h2⟩,hs,⟨by rw [ht];exact e,λt htm=> ?_⟩,⟨h3,λp hp k _ _=>Ho (h4 _ (WH hp)) k⟩,h5,h6,h7⟩;rw [ht,<- e] at htm;obtain ⟨u,_,rfl⟩:=U8.1 htm;exact aW _
theorem Hp {g:Gr} (ht:g.toks=dL) (i:Nat) {kd:Tk->Bool} {t:Tk} (h:dL[i]? =some t) (hk:kd t=true):0<=(i:Int)/\∃t,g.toks[(i:Int).toNat]? =some t/\kd t=true:=⟨by omega,t,by rw [ht,N4];exact h,hk⟩
theorem NE {g:Gr} {kd:Tk->Bool} {i:Int} (h:0<=i/\∃t,g.toks[i.toNat]? =some t/\kd t=true):fE g kd [i]:=by refine ⟨by simp,λn hn=>by rw [UU.1 hn];exact h,λj x y _ hy=> ?_⟩;simp at hy
theorem SN {g:Gr} {kd:Tk->Bool} {i j:Int} (h:0<=i/\∃t,g.toks[i.toNat]? =some t/\kd t=true) (h':0<=j/\∃t,g.toks[j.toNat]? =some t/\kd t=true) (hij:i<j):fE g kd [i,j]:=by
 refine ⟨by simp,λn hn=> ?_,λk x y hx hy=> ?_⟩
 ·rcases UT.1 hn with rfl|hn
  ·exact h
  ·rw [UU.1 hn];exact h'
 ·match k with
  |0=>simp at hx hy;subst hx hy;exact hij
  |k+1=>simp at hy
theorem pZ:MG cD:=by
 refine nW (n:=2) (by decide) rfl rfl rfl rfl (by unfold bE;decide) (by decide) (by decide) (by decide) (λp hp=> ?_) ⟨?_,?_⟩ ?_
 ·rcases UT.1 hp with rfl|hp
  ·exact ba (by decide) (aW _)
  rcases UT.1 hp with rfl|hp
  ·exact ba (by decide) (aW _)
  rcases UT.1 hp with rfl|hp
  ·exact ba (by decide) (aW _)
  rcases UT.1 hp with rfl|hp
  ·exact ba (by decide) (aW _)
  rcases UT.1 hp with rfl|hp
  ·exact ba (by decide) (dZ (by decide) (by decide))
  cases hp
 ·refine ⟨⟨by decide,by decide,(aW 2).fit (by decide),by decide,by decide,by decide⟩,⟨by decide,by decide,(aW 2).fit (by decide),by decide,by decide,by decide⟩,⟨by decide,by decide,(oV (n:=2) (v:=0) (by decide) (by decide)).fit (by decide),by decide,by decide,by decide⟩,trivial⟩
 ·intro l hl;rcases UT.1 hl with rfl|hl
  ·exact aW _
  rcases UT.1 hl with rfl|hl
  ·exact aW _
  rcases UT.1 hl with rfl|hl
  ·exact oV (by decide) (by decide)
  cases hl
 ·intro x hx;cases hx
theorem sJ:MG ce:=by
 refine nW (n:=2) (by decide) rfl rfl rfl rfl (by unfold bE;decide) (by decide) (by decide) (by decide) (λp hp=> ?_) ⟨?_,?_⟩ ?_
 ·rcases UT.1 hp with rfl|hp
  ·exact ba (by decide) (aW _)
  rcases UT.1 hp with rfl|hp
  ·exact ba (by decide) (aW _)
  rcases UT.1 hp with rfl|hp
  ·exact ba (by decide) (aW _)
  rcases UT.1 hp with rfl|hp
  ·exact ba (by decide) (aW _)
  rcases UT.1 hp with rfl|hp
  ·exact ba (by decide) (aW _)
  cases hp
 ·trivial
 ·intro l hl;cases hl
 ·intro x hx;rcases UT.1 hx with rfl|hx
  ·exact ⟨⟨(dZ (n:=2) (v:=0) (by decide) (by decide)).fit (by decide),.inl ⟨.inr rfl,⟨by decide,by decide,by decide,_,_,rfl,rfl,rfl⟩,rfl,rfl,rfl⟩⟩,dZ (by decide) (by decide),by decide⟩
  rcases UT.1 hx with rfl|hx
  ·exact ⟨⟨(dZ (n:=2) (v:=1) (by decide) (by decide)).fit (by decide),.inr (.inr ⟨rfl,⟨SN (Hp rfl 5 rfl (by decide)) (Hp rfl 6 rfl (by decide)) (by decide),by decide,_,rfl,rfl,rfl⟩,rfl,rfl,rfl,rfl⟩)⟩,dZ (by decide) (by decide),by decide⟩
  cases hx
theorem oM:MG dg:=by
 refine nW (n:=2) (by decide) rfl rfl rfl rfl (by unfold bE;decide) (by decide) (by decide) (by decide) (λp hp=> ?_) ⟨?_,?_⟩ ?_
 ·rcases UT.1 hp with rfl|hp
  ·exact ba (by decide) (aW _)
  rcases UT.1 hp with rfl|hp
  ·exact ba (by decide) (aW _)
  rcases UT.1 hp with rfl|hp
  ·exact ba (by decide) (aW _)
  rcases UT.1 hp with rfl|hp
  ·exact ba (by decide) (aW _)
  rcases UT.1 hp with rfl|hp
  ·exact ba (by decide) (aW _)
  rcases UT.1 hp with rfl|hp
  ·exact ba (by decide) (aW _)
  rcases UT.1 hp with rfl|hp
  ·exact ba (by decide) (dZ (by decide) (by decide))
  cases hp
 ·trivial
 ·intro l hl;cases hl
 ·intro x hx;cases hx
theorem Cd:MG jG:=by
 refine nW (n:=2) (by decide) rfl rfl rfl rfl (by unfold bE;decide) (by decide) (by decide) (by decide) (λp hp=> ?_) ⟨?_,?_⟩ ?_
 ·rcases UT.1 hp with rfl|hp
  ·exact ba (by decide) (aW _)
  rcases UT.1 hp with rfl|hp
  ·exact ba (by decide) (aW _)
  rcases UT.1 hp with rfl|hp
  ·exact ba (by decide) (aW _)
  rcases UT.1 hp with rfl|hp
  ·exact ba (by decide) (aW _)
  rcases UT.1 hp with rfl|hp
  ·exact ba (by decide) (dZ (by decide) (by decide))
  cases hp
 ·trivial
 ·intro l hl;cases hl
 ·intro x hx;cases hx
theorem yi:MG gN:=by
 refine nW (n:=2) (by decide) rfl rfl rfl rfl (by unfold bE;decide) (by decide) (by decide) (by decide) (λp hp=> ?_) ⟨?_,?_⟩ ?_
 ·rcases UT.1 hp with rfl|hp
  ·exact ba (by decide) (aW _)
  rcases UT.1 hp with rfl|hp
  ·exact ba (by decide) (aW _)
  rcases UT.1 hp with rfl|hp
  ·exact ba (by decide) (aW _)
  rcases UT.1 hp with rfl|hp
  ·exact ba (by decide) (aW _)
  rcases UT.1 hp with rfl|hp
  ·exact ba (by decide) (aW _)
  rcases UT.1 hp with rfl|hp
  ·exact ba (by decide) (dZ (by decide) (by decide))
  cases hp
 ·trivial
 ·intro l hl;cases hl
 ·intro x hx;rcases UT.1 hx with rfl|hx
  ·exact ⟨⟨(dZ (n:=2) (v:=0) (by decide) (by decide)).fit (by decide),.inr (.inl ⟨.inl rfl,⟨by decide,by decide,NE (Hp rfl 0 rfl (by decide))⟩,rfl,rfl,rfl,rfl⟩)⟩,dZ (by decide) (by decide),by decide⟩
  rcases UT.1 hx with rfl|hx
  ·exact ⟨⟨(oV (n:=2) (v:=1) (by decide) (by decide)).fit (by decide),.inr (.inl ⟨.inr rfl,⟨by decide,by decide,NE (Hp rfl 1 rfl (by decide))⟩,rfl,rfl,rfl,rfl⟩)⟩,oV (by decide) (by decide),by decide⟩
  cases hx
theorem yj:MG gO:=by
 refine nW (n:=2) (by decide) rfl rfl rfl rfl (by unfold bE;decide) (by decide) (by decide) (by decide) (λp hp=> ?_) ⟨?_,?_⟩ ?_
 ·rcases UT.1 hp with rfl|hp
  ·exact ba (by decide) (aW _)
  rcases UT.1 hp with rfl|hp
  ·exact ba (by decide) (aW _)
  rcases UT.1 hp with rfl|hp
  ·exact ba (by decide) (aW _)
  rcases UT.1 hp with rfl|hp
  ·exact ba (by decide) (aW _)
  rcases UT.1 hp with rfl|hp
  ·exact ba (by decide) (dZ (by decide) (by decide))
  cases hp
 ·trivial
 ·intro l hl;cases hl
 ·intro x hx;cases hx
theorem Dw {k:Nat} (hk:k<6):MG (cg k):=by
 have h:k=0\/k=1\/k=2\/k=3\/k=4\/k=5:=by omega
 rcases h with rfl|rfl|rfl|rfl|rfl|rfl
 ·exact pZ
 ·exact sJ
 ·exact oM
 ·exact Cd
 ·exact yi
 ·exact yj
theorem Dx (x:Rw):MG (dr x):=by
 unfold dr;split
 ·rename_i h;exact Dw (of_decide_eq_true h)
 ·have hn:(fH x).length≠0:=by unfold fH;rw [Vb];simp
  refine nW (n:=x.n % 4) (by omega) rfl rfl rfl rfl ?_ (λs hs=> ?_) (by show ([⟨#[102,105,114,115,116]⟩]:List ByteArray).Nodup;simp) (λs hs=>by rw [UU.1 (show s∈([⟨#[102,105,114,115,116]⟩]:List ByteArray) from hs)];decide) (λp hp=> ?_) ⟨trivial,λl hl=>(by cases hl)⟩ λx hx=>by cases hx
  ·have h:x.n / 4 % 3=0\/x.n / 4 % 3=1\/x.n / 4 % 3=2:=by omega
   show bE (fH x);unfold fH;rcases h with h|h|h<;>rw [h]<;>(unfold bE;decide)
  ·have:∀s∈([⟨#[83]⟩,⟨#[80]⟩,⟨#[81]⟩]:List ByteArray),s.size<=10:=by decide
   exact this s (Wh hs)
  ·rw [UU.1 hp];refine ba ⟨⟨by decide,?_⟩,by decide,?_,by decide,by decide,by decide,by decide⟩ (aW _)
   ·show (0:Int)<(fH x).length;omega
   ·intro s hs;rw [UU.1 hs];exact ⟨by decide,λ_=>by decide,λh=>(by cases h)⟩
theorem AB (x:Rw):MG (dp x)/\Bd (dp x) 18 10:=by
 have hm:cK x<=10:=by unfold cK;split<;>decide
 have b1:=DC (x:=x) (p7 x);have m1:=(Dx x).famG (p7 x) x;have b2:=p9 (x:=x) (x.lines.take (cK x)) b1;have hl:(x.lines.take (cK x)).length<=10:=by rw [Vb];omega
 have hr:(x.rules.take 6).length<=6:=by rw [Vb];omega
 have m2:=MG.lines (x:=x) (x.lines.take (cK x)) m1 b1 (by omega);have b3:=qe (x.rules.take 6) b2;have m3:=MG.rules (x.rules.take 6) m2 b2;refine ⟨m3,?_⟩;obtain ⟨c1,c2,c3,c4,c5,c6,c7,c8,c9⟩:=b3;exact ⟨c1,c2,c3,c4,by unfold dp;omega,c6,by unfold dp;omega,c8,by unfold dp;omega⟩
section
end
section
end
section
end
section
end
section
end
section
end
end Go.Proofs.YtcemhghkipgdiaaGreatDoor
namespace Go.Proofs.YtcemhghkipgdiaaGreatDoor
open Go Go.ChangeShapes Go.WideShapes Go.ChangeAt Go.RowKit Go.Deep Go.Proofs.Tryz
set_option maxRecDepth 100000
section
variable {H:Type} {enc:TypeId×Value->H} {P:Program} {W:World}
theorem wJ {α:Type} {cells:α->Ξ} {k:Nat} (hk:∀o,(cells o).length=k):∀{os:List α} {i j:Nat},j<k->(os.flatMap cells)[i*k+j]? =(os[i]?).bind λo=>(cells o)[j]?
 |[],i,j,_=>by simp
 |o::os,0,j,hj=>by rw [VC,V5,Vd,U9 (by rw [hk];exact hj)];rfl
 |o::os,i+1,j,hj=>by rw [VC,Vn (by rw [hk,Wf];omega),hk,show (i+1)*k+j - k=i*k+j by rw [Wf];omega,wJ hk hj];rfl
theorem jb {α:Type} {cells:α->Ξ} {k:Nat} (hk:∀o,(cells o).length=k):∀os:List α,(os.flatMap cells).length=os.length*k
 |[]=>by simp
 |o::os=>by rw [VC,UV,hk,jb hk os,Vf,Wf,Nat.add_comm]
theorem mU {α:Type} [Inhabited α] {t e k:Nat} {cells:α->Ξ} {Q:α->Prop} (ht:P.underlying t=some (.slice e)) (hk:P.cellsOf e=k) (hk0:0<k) (hlen:∀o,(cells o).length=k)
  (elem:∀{fuel:Nat} {cs:Ξ} {x:DataW H×List MemPlace},DataW.trod enc P W 0 (λ_=>true) true fuel e cs=some x->(x.1.weights P e).all (·<=reachBytes)=true->∃o,cs=cells o/\Q o)
  {fuel:Nat} {c:Value} {x:DataW H×List MemPlace} (h:DataW.trod enc P W 0 (λ_=>true) true fuel t [c]=some x) (hw:(x.1.weights P t).all (·<=reachBytes)=true):
  ∃(sl:Sl) (os:List α),c=Sl.v sl/\RdS (hF W) sl k (os.flatMap cells)/\(∀o∈os,Q o)/\os.length=sl.len/\sl.len*P.bytesOf e<=reachBytes:=by
 rcases open_slice ht h with ⟨hcs,rfl⟩|⟨a,len,cap,m,n,D,Pl,hcs,_,hl,hm,hmm,rfl,hx⟩
 ·cases hcs;exact ⟨Sl.nil,[],rfl,RdS.nil _ _,by simp,rfl,by simp [Sl.nil]⟩
 ·cases hcs;simp only [if_true] at hmm;subst hmm;rw [hk] at hx;have hwD:∀i,i<len->((D i).weights P e).all (·<=reachBytes)=true:=λi hi=>by
   rw [Vv] at hw ⊢;intro y hy;refine hw y ?_;simp only [DataW.weights,ht];refine Ve _ (Wz _ ?_);have gen:∀(l:List (DataW H)) (d:DataW H),d∈l->∀y∈d.weights P e,y∈DataW.weightsAll P e l:=by
    intro l;induction l with
    |nil=>intro d hd;cases hd
    |cons a l ih=>
     intro d hd y hy;simp only [DataW.weightsAll,UX];rcases UT.1 hd with rfl|hd
     ·exact .inl hy
     ·exact .inr (ih d hd y hy)
   exact gen _ (D i) (U8.2 ⟨i,VA.2 hi,rfl⟩) y hy
  have hb:m*P.bytesOf e<=reachBytes:=by simp only [DataW.weights,ht,WC,VB,decide_eq_true_eq,U6,Vw] at hw;rw [show len+(m - len)=m by omega] at hw;exact hw.1
  have ho:∀i,i<len->∃o:α,W.cells? 0 (a.add (i*k)) k=some (cells o)/\Q o:=λi hi=>by obtain ⟨cs,h1,h2⟩:=hx i (by omega);obtain ⟨o,rfl,h3⟩:=elem h2 (hwD i hi);exact ⟨o,h1,h3⟩
  obtain ⟨O,hO⟩:=choose_lt ho;refine ⟨⟨some a,len,m⟩,(List.range len).map O,rfl,⟨?_,hl,λhp=> ?_⟩,?_,by simp,VK (V0 _ hl) hb⟩
  ·rw [jb hlen];simp
  ·simp only at hp;have h0:=(World.cells?_some (hO 0 (by omega)).1).2.2 0 hk0;obtain ⟨v0,hv0⟩:∃v,(cells (O 0))[0]? =some v:=⟨_,N5 (by rw [hlen];exact hk0)⟩;have hs:=World.cell?_spot (v:=v0) (by rw [h0];exact hv0);obtain ⟨b,o,spot⟩:=a;simp [Addr.add] at hs;subst hs;refine ⟨b,o,rfl,λi hi=> ?_⟩;rw [jb hlen,U6,Vw] at hi;have hik:i / k<len:=Nat.div_lt_of_lt_mul (by rw [Nat.mul_comm];exact hi);have hr:i % k<k:=VU _ hk0;have h1:=(World.cells?_some (hO (i / k) hik).1).2.2 (i % k) hr;have h2:=wJ hlen (os:=(List.range len).map O) (i:=i / k) (j:=i % k) hr;have hdm:i / k*k+i % k=i:=by rw [Nat.mul_comm];exact Nat.div_add_mod i k
   rw [hdm] at h2;rw [<- N5,h2];simp only [U5,Vy hik,VD,Option.bind_some];rw [<- h1,aB,aB,Nat.add_assoc,hdm];rfl
  ·intro o ho;obtain ⟨i,hi,rfl⟩:=U8.1 ho;exact (hO i (VA.1 hi)).2
end
section
variable {H:Type} {enc:TypeId×Value->H} {W:World}
instance:Inhabited (Ln×Sl):=⟨⟨⟨0,[],0,0⟩,Sl.nil⟩⟩
instance:Inhabited Ru:=⟨⟨0,0,0,0,0⟩⟩
theorem Dy:prog.cellsOf 22=1:=by kernel_rfl
theorem uA:prog.cellsOf 91=4:=by kernel_rfl
theorem AC:prog.cellsOf 131=5:=by kernel_rfl
theorem Hq:prog.cellsOf 26=5:=by kernel_rfl
theorem Hr:prog.cellsOf 23=1:=by kernel_rfl
theorem Ht:prog.cellsOf 24=1:=by kernel_rfl
theorem fD {z:Int} (h:(Lit.int .u8 z).wf=true):∃n:Nat,z=n/\n<256:=by obtain ⟨h1,h2⟩:=L4 h;exact ⟨z.toNat,by omega,by omega⟩
theorem p5 {fuel:Nat} {c:Value} {x:DataW H×List MemPlace} (h:DataW.trod enc prog W 0 (λ_=>true) true fuel 22 [c]=some x) (hw:(x.1.weights prog 22).all (·<=reachBytes)=true):
  ∃(sl:Sl) (ns:Δ),c=Sl.v sl/\RdS (hF W) sl 1 (ns.map vB)/\(∀n∈ns,n<256)/\ns.length<=9000000000000000:=by
 obtain ⟨sl,zs,rfl,hr,hz,hb,_⟩:=D0 underlying22 underlying5 qE h hw;have e:(zs.map Int.toNat).map vB=zs.map (Value.int .u8):=by rw [List.map_map];refine Wk λz hz'=> ?_;obtain ⟨n,rfl,_⟩:=fD (hz z hz');simp only [Function.comp,N4]
 refine ⟨sl,zs.map Int.toNat,rfl,by rw [e];exact hr,λn hn=> ?_,by rw [U6];exact HK hr hb⟩;obtain ⟨z,hz',rfl⟩:=U8.1 hn;obtain ⟨n,rfl,hn'⟩:=fD (hz z hz');rw [N4];exact hn'
theorem sZ {fuel:Nat} {cs:Ξ} {x:DataW H×List MemPlace} (h:DataW.trod enc prog W 0 (λ_=>true) true fuel 91 cs=some x) (hw:(x.1.weights prog 91).all (·<=reachBytes)=true):
  ∃o:Ln×Sl,cs=[vB o.1.left,o.2.v,vB o.1.cond,vB o.1.mark]/\(RdS (hF W) o.2 1 (o.1.right.map vB)/\o.1.left<256/\o.1.cond<256/\o.1.mark<256/\∀y∈o.1.right,y<256):=by
 obtain ⟨xs,n,_,rfl,hl,hxl,hf⟩:=DataW.trod_struct underlying91 h;rw [uA] at hl
 match cs,hl with
 |[c0,c1,c2,c3],_=>
 match xs,hxl with
 |[x0,x1,x2,x3],_=>
 have f0:=hf 0 _ rfl;have f1:=hf 1 _ rfl;have f2:=hf 2 _ rfl;have f3:=hf 3 _ rfl;simp only [List.getElem?_cons_zero,VG] at f0 f1 f2 f3;obtain ⟨z0,e0,_,w0⟩:=DataW.trod_int underlying5 f0;obtain ⟨z2,e2,_,w2⟩:=DataW.trod_int underlying5 f2;obtain ⟨z3,e3,_,w3⟩:=DataW.trod_int underlying5 f3;cases e0;cases e2;cases e3;have hw1:(x1.1.weights prog 22).all (·<=reachBytes)=true:=by rw [Vv] at hw ⊢;intro y hy;refine hw y ?_;simp only [DataW.weights,underlying91];exact DataW.weights_mem_each (j:=1) rfl rfl y hy
 obtain ⟨sl,ns,rfl,hr,hn,_⟩:=p5 f1 hw1;obtain ⟨n0,rfl,k0⟩:=fD w0;obtain ⟨n2,rfl,k2⟩:=fD w2;obtain ⟨n3,rfl,k3⟩:=fD w3;exact ⟨⟨⟨n0,ns,n2,n3⟩,sl⟩,rfl,hr,k0,k2,k3,hn⟩
theorem Ce {fuel:Nat} {cs:Ξ} {x:DataW H×List MemPlace} (h:DataW.trod enc prog W 0 (λ_=>true) true fuel 131 cs=some x) (_hw:(x.1.weights prog 131).all (·<=reachBytes)=true):
  ∃o:Ru,cs=[vB o.kind,vB o.a,vB o.b,vB o.c,vB o.cond]/\(o.kind<256/\o.a<256/\o.b<256/\o.c<256/\o.cond<256):=by
 obtain ⟨xs,n,_,rfl,hl,hxl,hf⟩:=DataW.trod_struct underlying131 h;rw [AC] at hl
 match cs,hl with
 |[c0,c1,c2,c3,c4],_=>
 match xs,hxl with
 |[x0,x1,x2,x3,x4],_=>
 have f0:=hf 0 _ rfl;have f1:=hf 1 _ rfl;have f2:=hf 2 _ rfl;have f3:=hf 3 _ rfl;have f4:=hf 4 _ rfl;simp only [List.getElem?_cons_zero,VG] at f0 f1 f2 f3 f4;obtain ⟨z0,e0,_,w0⟩:=DataW.trod_int underlying5 f0;obtain ⟨z1,e1,_,w1⟩:=DataW.trod_int underlying5 f1;obtain ⟨z2,e2,_,w2⟩:=DataW.trod_int underlying5 f2;obtain ⟨z3,e3,_,w3⟩:=DataW.trod_int underlying5 f3;obtain ⟨z4,e4,_,w4⟩:=DataW.trod_int underlying5 f4;cases e0;cases e1;cases e2;cases e3;cases e4;obtain ⟨n0,rfl,k0⟩:=fD w0;obtain ⟨n1,rfl,k1⟩:=fD w1;obtain ⟨n2,rfl,k2⟩:=fD w2;obtain ⟨n3,rfl,k3⟩:=fD w3;obtain ⟨n4,rfl,k4⟩:=fD w4;exact ⟨⟨n0,n1,n2,n3,n4⟩,rfl,k0,k1,k2,k3,k4⟩
theorem oW {α β:Type} [Mem β] {F:PH} {cells:α->Ξ} {f:α->β}:∀{os:List α},(∀o∈os,Mem.rep F (f o) (cells o).toArray)->cN F (os.map f) (os.map λo=>(cells o).toArray)
 |[],_=> .nil
 |o::os,h=> .cons (h o (by simp)) (oW λx hx=>h x (by simp [hx]))
theorem yk {α:Type} (cells:α->Ξ) (os:List α):cat (os.map λo=>(cells o).toArray)=os.flatMap cells:=by unfold cat;rw [List.flatMap_map]
theorem Dz {fuel:Nat} {cs:Γ} {x:DataW H×List MemPlace} (h:DataW.trod enc prog W 0 (λ_=>true) true fuel 26 cs.toList=some x) (hw:(x.1.weights prog 26).all (·<=reachBytes)=true):
  ∃r:Rw,yo (hF W) cs r:=by
 obtain ⟨xs,n,_,rfl,hl,hxl,hf⟩:=DataW.trod_struct underlying26 h;rw [Hq] at hl;obtain ⟨cs⟩:=cs
 match cs,hl with
 |[c0,c1,c2,c3,c4],_=>
 match xs,hxl with
 |[x0,x1,x2,x3,x4],_=>
 have f0:=hf 0 _ rfl;have f1:=hf 1 _ rfl;have f2:=hf 2 _ rfl;have f3:=hf 3 _ rfl;have f4:=hf 4 _ rfl;simp only [List.getElem?_cons_zero,VG] at f0 f1 f2 f3 f4;obtain ⟨z0,e0,_,w0⟩:=DataW.trod_int underlying5 f0;obtain ⟨z1,e1,_,w1⟩:=DataW.trod_int underlying5 f1;cases e0;cases e1;have hw2:(x2.1.weights prog 22).all (·<=reachBytes)=true:=by rw [Vv] at hw ⊢;intro y hy;refine hw y ?_;simp only [DataW.weights,underlying26];exact DataW.weights_mem_each (j:=2) rfl rfl y hy
 have hw3:(x3.1.weights prog 23).all (·<=reachBytes)=true:=by rw [Vv] at hw ⊢;intro y hy;refine hw y ?_;simp only [DataW.weights,underlying26];exact DataW.weights_mem_each (j:=3) rfl rfl y hy
 have hw4:(x4.1.weights prog 24).all (·<=reachBytes)=true:=by rw [Vv] at hw ⊢;intro y hy;refine hw y ?_;simp only [DataW.weights,underlying26];exact DataW.weights_mem_each (j:=4) rfl rfl y hy
 obtain ⟨sf,ns,rfl,hr2,hn2,_⟩:=p5 f2 hw2;obtain ⟨sl,ls,rfl,hr3,hq3,_,_⟩:=mU (k:=4) (cells:=λo:Ln×Sl=>[vB o.1.left,o.2.v,vB o.1.cond,vB o.1.mark]) underlying23 uA (by decide) (λ_=>rfl) sZ f3 hw3;obtain ⟨sr,rs,rfl,hr4,hq4,_,_⟩:=mU (k:=5) (cells:=λo:Ru=>[vB o.kind,vB o.a,vB o.b,vB o.c,vB o.cond]) underlying24 AC (by decide) (λ_=>rfl) Ce f4 hw4;obtain ⟨n0,rfl,k0⟩:=fD w0;obtain ⟨n1,rfl,k1⟩:=fD w1;refine ⟨⟨n0,n1,ns,ls.map Prod.fst,rs⟩,⟨sf,sl,sr,rfl,hr2,⟨_,oW (f:=Prod.fst) (cells:=λo:Ln×Sl=>[vB o.1.left,o.2.v,vB o.1.cond,vB o.1.mark]) λo ho=> ?_,by rw [yk];exact hr3⟩,⟨_,?_,by rw [yk (λo:Ru=>[vB o.kind,vB o.a,vB o.b,vB o.c,vB o.cond])];exact hr4⟩⟩,k0,k1⟩
 ·obtain ⟨h1,h2⟩:=hq3 o ho;exact ⟨o.2,rfl,h1,h2⟩
 ·have:=oW (F:=hF W) (f:=λo:Ru=>o) (cells:=λo:Ru=>[vB o.kind,vB o.a,vB o.b,vB o.c,vB o.cond]) (os:=rs) λo ho=>⟨rfl,hq4 o ho⟩;rw [List.map_id'] at this;exact this
end
set_option maxRecDepth 100000
section
variable {H:Type} {enc:TypeId×Value->H} {W:World}
theorem yl {fuel:Nat} {c:Value} {x:DataW H×List MemPlace} (h:DataW.trod enc prog W 0 (λ_=>true) true fuel 23 [c]=some x) (hw:(x.1.weights prog 23).all (·<=reachBytes)=true):
  ∃(sl:Sl) (ls:List Ln),c=Sl.v sl/\RL (hF W) sl ls:=by
 obtain ⟨sl,ls,rfl,hr3,hq3,_,_⟩:=mU (k:=4) (cells:=λo:Ln×Sl=>[vB o.1.left,o.2.v,vB o.1.cond,vB o.1.mark]) underlying23 uA (by decide) (λ_=>rfl) sZ h hw;refine ⟨sl,ls.map Prod.fst,rfl,_,oW (f:=Prod.fst) (cells:=λo:Ln×Sl=>[vB o.1.left,o.2.v,vB o.1.cond,vB o.1.mark]) λo ho=> ?_,by rw [yk];exact hr3⟩;obtain ⟨h1,h2⟩:=hq3 o ho;exact ⟨o.2,rfl,h1,h2⟩
end
end Go.Proofs.YtcemhghkipgdiaaGreatDoor
namespace Go.Proofs.YtcemhghkipgdiaaGreatDoor
open Go Go.Proofs.Tryz Tr
theorem lf {k:Nat}:∀{t:Tr},df k t->∀{c d:Cf},(∀i,i<k->c i=d i)->t.ev c=t.ev d
 |leaf _,_,_,_,_=>rfl
 |node v l h,⟨h1,h2,h3⟩,c,d,hc=>by simp only [Tr.ev];rw [hc v h1,lf h2 hc,lf h3 hc]
def ym (c:Cf):Nat->Nat
 |0=>0
 |k+1=>ym c k+if c k=true then 2 ^ k else 0
theorem uB (c:Cf):∀k,ym c k<2 ^ k
 |0=>Nat.one_pos
 |k+1=>by have:=uB c k;rw [WA,ym];split<;>omega
theorem p6 (c:Cf):∀{k i:Nat},i<k->(ym c k).testBit i=c i
 |0,_,h=>by omega
 |k+1,i,h=>by
  have hlt:=uB c k;rw [ym];by_cases e:i=k
  ·subst e;by_cases hc:c i=true
   ·rw [if_pos hc,Nat.add_comm,Nat.testBit_two_pow_add_eq,VJ hlt,hc];rfl
   ·rw [if_neg hc,Wo,VJ hlt];simpa using (VV.2 hc).symm
  ·have hi:i<k:=by omega
   by_cases hc:c k=true
   ·rw [if_pos hc,Nat.add_comm,Nat.testBit_two_pow_add_gt hi];exact p6 c hi
   ·rw [if_neg hc,Wo];exact p6 c hi
theorem ta {α:Type} {p q:α->Bool}:∀{l:List α},(∀x∈l,p x=true->q x=true)->(l.filter p).length<=(l.filter q).length/\∀x∈l,q x=true->p x=false->(l.filter p).length<(l.filter q).length
 |[],_=>⟨UW _,λ_ h=>by cases h⟩
 |y::l,h=>by
  obtain ⟨h1,h2⟩:=ta (l:=l) λx hx=>h x (Ve _ hx);have hy:=h y (by simp);have e1:((y::l).filter p).length=(l.filter p).length+if p y=true then 1 else 0:=by rw [List.filter_cons];split<;>simp
  have e2:((y::l).filter q).length=(l.filter q).length+if q y=true then 1 else 0:=by rw [List.filter_cons];split<;>simp
  rw [e1,e2];refine ⟨?_,λx hx hq hp=> ?_⟩
  ·by_cases hpy:p y=true
   ·rw [if_pos hpy,if_pos (hy hpy)];omega
   ·rw [if_neg hpy];omega
  ·rcases UT.1 hx with rfl|hx
   ·rw [if_pos hq,if_neg (by rw [hp];exact Wc)];omega
   ·have:=h2 x hx hq hp;by_cases hpy:p y=true
    ·rw [if_pos hpy,if_pos (hy hpy)];omega
    ·rw [if_neg hpy];omega
def wt (k:Nat) (t:Tr):Nat:=((List.range (2 ^ k)).filter λm=>t.ev λi=>m.testBit i).length
theorem Ju (k:Nat) (t:Tr):wt k t<=2 ^ k:=by unfold wt;exact VK (List.length_filter_le _ _) (by rw [Vw];exact UW _)
theorem NF {k:Nat} {a b:Tr} (ha:Sx k a) (hb:Sx k b) (hle:∀c,a.ev c=true->b.ev c=true):wt k a<=wt k b/\(a≠b->wt k a<wt k b):=by
 obtain ⟨h1,h2⟩:=ta (p:=λm:Nat=>a.ev λi=>m.testBit i) (q:=λm=>b.ev λi=>m.testBit i) (l:=List.range (2 ^ k)) λx _=>hle _;refine ⟨h1,λhne=> ?_⟩;have hex:¬∀c,a.ev c=b.ev c:=λh=>hne (eL ha.1 hb.1 h);have ⟨c,hc⟩:∃c,a.ev c≠b.ev c:=Classical.not_forall.1 hex;have e:∀{t:Tr},Sx k t->t.ev (λi=>(ym c k).testBit i)=t.ev c:=λht=>lf ht.2 λi hi=>p6 c hi;have hac:a.ev c=false:=by
  cases h:a.ev c with
  |false=>rfl
  |true=>exact absurd (h.trans (hle c h).symm) hc
 refine h2 (ym c k) (VA.2 (uB c k)) ?_ ?_
 ·show b.ev _=true;rw [e hb];cases h:b.ev c with
  |true=>rfl
  |false=>exact absurd (hac.trans h.symm) hc
 ·show a.ev _=false;rw [e ha,hac]
section
variable {κ:Type} {k:Nat}
def Sxs (k:Nat) (S:κ->Tr):Prop:=∀n,Sx k (S n)
def Lt' (S S':κ->Tr):Prop:=∀n c,(S n).ev c=true->(S' n).ev c=true
theorem Lt'.refl (S:κ->Tr):Lt' S S:=λ_ _ h=>h
theorem Lt'.trans {S T U:κ->Tr} (h:Lt' S T) (h':Lt' T U):Lt' S U:=λn c hc=>h' n c (h n c hc)
theorem Lt'.antisymm {S T:κ->Tr} (hS:Sxs k S) (hT:Sxs k T) (h:Lt' S T) (h':Lt' T S):S=T:=by
 funext n;refine eL (hS n).1 (hT n).1 λc=> ?_;cases e:(S n).ev c with
 |true=>exact (h n c e).symm
 |false=>
  cases e':(T n).ev c with
  |false=>rfl
  |true=>rw [h' n c e'] at e;cases e
def mu (k:Nat) (keys:List κ) (S:κ->Tr):Nat:=(keys.map λn=>2 ^ k - wt k (S n)).sum
theorem AD {S T:κ->Tr} (hS:Sxs k S) (hT:Sxs k T) (h:Lt' S T):∀keys:List κ,mu k keys T<=mu k keys S/\∀n∈keys,S n≠T n->mu k keys T<mu k keys S
 |[]=>⟨UW _,λ_ h=>by cases h⟩
 |x::l=>by
  obtain ⟨h1,h2⟩:=AD hS hT h l;obtain ⟨w1,w2⟩:=NF (hS x) (hT x) (h x);have a1:=Ju k (S x);have a2:=Ju k (T x);have e:∀S:κ->Tr,mu k (x::l) S=(2 ^ k - wt k (S x))+mu k l S:=λS=>by unfold mu;rw [Vi,List.sum_cons]
  rw [e,e];refine ⟨by omega,λn hn hne=> ?_⟩;rcases UT.1 hn with rfl|hn
  ·have:=w2 hne;omega
  ·have:=h2 n hn hne;omega
variable [DecidableEq κ]
def eU (S:κ->Tr) (n:κ) (t:Tr):κ->Tr:=λi=>if i=n then t else S i
theorem tc (S:κ->Tr) (n:κ):eU S n (S n)=S:=by
 funext i;unfold eU;split
 ·rename_i e;rw [e]
 ·rfl
theorem Sxs.upd {S:κ->Tr} (h:Sxs k S) {n:κ} {t:Tr} (ht:Sx k t):Sxs k (eU S n t):=λi=>by
 unfold eU;split
 ·exact ht
 ·exact h i
noncomputable def cC (S:κ->Tr) (n:κ) (d:Tr):κ->Tr:=eU S n (ap2 oOr (S n) d)
theorem fK {S:κ->Tr} (h:Sxs k S) {n:κ} {d:Tr} (hd:Sx k d) (i:κ) (c:Cf):(cC S n d i).ev c=((S i).ev c || (decide (i=n) && d.ev c)):=by
 unfold cC eU;by_cases e:i=n
 ·rw [if_pos e,decide_eq_true e,e,(bA (h n).1 hd.1).2];rfl
 ·rw [if_neg e,decide_eq_false e];simp
theorem dE {S:κ->Tr} (h:Sxs k S) {n:κ} {d:Tr} (hd:Sx k d):Sxs k (cC S n d):=h.upd ((h n).ap2 hd)
theorem eI {S:κ->Tr} (h:Sxs k S) {n:κ} {d:Tr} (hd:Sx k d):Lt' S (cC S n d):=λi c hc=>by rw [fK h hd,hc];rfl
end
inductive Der (l:List Pr) (P:Nat->Tr) (st:Bool) (c:Cf):Int->Prop
 |mk (i:Nat) (x:Pr):l[i]? =some x->(P i).ev c=true->(∀s∈x.right,s.t=true->st=false)->(∀s∈x.right,s.t=false->Der l P st c s.i)->Der l P st c x.left
section
variable {k:Nat} {l:List Pr} {P:Nat->Tr} {st:Bool}
noncomputable def dF (S:Int->Tr):Tr->List Sy->Tr
 |d,[]=>d
 |d,s::r=>dF S (if s.t=true then d else ap2 bj d (S s.i)) r
theorem bx {S:Int->Tr} (hS:Sxs k S):∀(r:List Sy) {d:Tr},Sx k d->Sx k (dF S d r)/\∀c,(dF S d r).ev c=(d.ev c && r.all λs=>s.t || (S s.i).ev c)
 |[],d,hd=>⟨hd,λc=>by simp [dF]⟩
 |s::r,d,hd=>by
  unfold dF;by_cases h:s.t=true
  ·rw [if_pos h];obtain ⟨h1,h2⟩:=bx hS r hd;exact ⟨h1,λc=>by rw [h2,WC,h];simp⟩
  ·rw [if_neg h];obtain ⟨h1,h2⟩:=bx hS r (hd.ap2 (o:=bj) (hS s.i));refine ⟨h1,λc=> ?_⟩;rw [h2,WC,(bA hd.1 (hS s.i).1).2,VV.2 h,WD,Bool.and_assoc]
def gh (st:Bool) (x:Pr):Bool:=st && x.right.any (·.t)
noncomputable def iX (st:Bool) (P:Nat->Tr):Nat->List Pr->(Int->Tr)->Int->Tr
 |_,[],S=>S
 |i,x::l,S=>iX st P (i+1) l (if gh st x=true then S else cC S x.left (dF S (P i) x.right))
theorem gi {S:Int->Tr} (hS:Sxs k S) {i:Nat} (hP:Sx k (P i)) (x:Pr):
  Sxs k (if gh st x=true then S else cC S x.left (dF S (P i) x.right))/\Lt' S (if gh st x=true then S else cC S x.left (dF S (P i) x.right)):=by
 obtain ⟨h1,_⟩:=bx hS x.right hP;split
 ·exact ⟨hS,Lt'.refl S⟩
 ·exact ⟨dE hS h1,eI hS h1⟩
theorem kv (hP:∀i,Sx k (P i)):∀(l:List Pr) (i:Nat) {S:Int->Tr},Sxs k S->Sxs k (iX st P i l S)/\Lt' S (iX st P i l S)/\∀n,iX st P i l S n≠S n->∃x∈l,x.left=n
 |[],i,S,hS=>⟨hS,Lt'.refl S,λn h=>absurd rfl h⟩
 |x::l,i,S,hS=>by
  obtain ⟨a1,a2⟩:=gi (st:=st) hS (hP i) x;unfold iX;obtain ⟨b1,b2,b3⟩:=kv hP l (i+1) a1;refine ⟨b1,a2.trans b2,λn hn=> ?_⟩;by_cases e:x.left=n
  ·exact ⟨x,by simp,e⟩
  ·have:(if gh st x=true then S else cC S x.left (dF S (P i) x.right)) n=S n:=by
    split
    ·rfl
    ·unfold cC eU;rw [if_neg (Ne.symm e)]
   obtain ⟨y,hy,hl⟩:=b3 n (by rw [this];exact hn);exact ⟨y,Ve _ hy,hl⟩
theorem nX (hP:∀i,Sx k (P i)):∀(l:List Pr) (i:Nat) {S:Int->Tr},Sxs k S->iX st P i l S=S->
  ∀(j:Nat) (x:Pr),l[j]? =some x->gh st x=false->∀c,(dF S (P (i+j)) x.right).ev c=true->(S x.left).ev c=true
 |[],_,_,_,_,j,_,h,_=>by simp at h
 |y::l,i,S,hS,he,j,x,hj,hs=>by
  obtain ⟨a1,a2⟩:=gi (st:=st) hS (hP i) y;unfold iX at he;obtain ⟨b1,b2,_⟩:=kv (st:=st) hP l (i+1) a1;have e1:(if gh st y=true then S else cC S y.left (dF S (P i) y.right))=S:=by refine Lt'.antisymm a1 hS ?_ a2;rw [he] at b2;exact b2
  rw [e1] at he;cases j with
  |zero=>simp at hj;subst hj;rw [hs,if_neg Wc] at e1;intro c hc;have:=fK hS (n:=y.left) (bx hS y.right (hP i)).1 y.left c;rw [e1,decide_eq_true rfl,V4] at this;rw [this];rw [Wo] at hc;rw [hc,Bool.or_true]
  |succ j=>intro c hc;refine nX hP l (i+1) hS he j x (by simpa using hj) hs c ?_;rw [show i+1+j=i+(j+1) by omega];exact hc
def Snd (l:List Pr) (P:Nat->Tr) (st:Bool) (S:Int->Tr):Prop:=∀n c,(S n).ev c=true->Der l P st c n
theorem wK (hP:∀i,Sx k (P i)):∀(m:List Pr) (i:Nat) {S:Int->Tr},(∀j x,m[j]? =some x->l[i+j]? =some x)->Sxs k S->Snd l P st S->Snd l P st (iX st P i m S)
 |[],_,_,_,_,h=>h
 |x::m,i,S,hl,hS,h=>by
  obtain ⟨a1,a2⟩:=gi (st:=st) hS (hP i) x;unfold iX;refine wK hP m (i+1) (λj y hj=>by rw [show i+1+j=i+(j+1) by omega];exact hl (j+1) y (by simpa using hj)) a1 ?_;by_cases hsk:gh st x=true
  ·rw [if_pos hsk];exact h
  ·rw [if_neg hsk];intro n c hc;obtain ⟨f1,f2⟩:=bx hS x.right (hP i);rw [fK hS f1] at hc;rcases Wn.1 hc with hc|hc
   ·exact h n c hc
   ·obtain ⟨e,hc⟩:=Vj.1 hc;have e:=of_decide_eq_true e;rw [f2] at hc;obtain ⟨h1,h2⟩:=Vj.1 hc;rw [Vv] at h2;rw [e];refine .mk i x (by have:=hl 0 x rfl;rwa [Wo] at this) h1 (λs hs ht=> ?_) λs hs ht=> ?_
    ·cases hst:st with
     |false=>rfl
     |true=>refine absurd ?_ hsk;unfold gh;rw [hst,V4,VZ];exact ⟨s,hs,ht⟩
    ·have:=h2 s hs;rw [ht,WD] at this;exact h _ _ this
theorem yn {S:Int->Tr} (hS:Sxs k S) (hP:∀i,Sx k (P i)) (hc:∀(j:Nat) (x:Pr),l[j]? =some x->gh st x=false->∀c,(dF S (P j) x.right).ev c=true->(S x.left).ev c=true) {c:Cf} {n:Int} (h:Der l P st c n):(S n).ev c=true:=by
 induction h with
 |mk i x hi hp ht _ ih=>
  refine hc i x hi ?_ c ?_
  ·unfold gh;cases hst:st with
   |false=>rfl
   |true=>rw [V4,<- Wq,VZ];rintro ⟨s,hs,h⟩;have:=ht s hs h;rw [hst] at this;cases this
  ·rw [(bx hS x.right (hP i)).2,hp,V4,Vv];intro s hs;cases h:s.t with
   |true=>rfl
   |false=>rw [WD];exact ih s hs h
structure eV (k:Nat) (l:List Pr) (P:Nat->Tr) (st:Bool) (S:Int->Tr):Prop where
 sx:Sxs k S
 iff:∀n c,(S n).ev c=true↔Der l P st c n
theorem DA {S:Int->Tr} (hP:∀i,Sx k (P i)) (hS:Sxs k S) (h:Snd l P st S) (he:iX st P 0 l S=S):eV k l P st S:=
 ⟨hS,λn c=>⟨h n c,yn hS hP λj x hj hs c hc=>nX hP l 0 hS he j x hj hs c (by rw [Vd];exact hc)⟩⟩
end
def Stp (l:List Pr) (P:Nat->Tr) (c:Cf) (a b:Int):Prop:=∃(i j:Nat) (x:Pr) (s:Sy),l[i]? =some x/\x.right[j]? =some s/\s.t=false/\x.left=a/\s.i=b/\(P i).ev c=true/\
 ∀(m:Nat) (y:Sy),m≠j->x.right[m]? =some y->y.t=false/\Der l P true c y.i
inductive Tg {α:Type} (R:α->α->Prop) (a:α):α->Prop
 |one {b:α}:R a b->Tg R a b
 |snoc {b d:α}:Tg R a b->R b d->Tg R a d
section
variable {α:Type} {R:α->α->Prop}
theorem Tg.mono {R':α->α->Prop} (hr:∀a b,R a b->R' a b) {a b:α} (h:Tg R a b):Tg R' a b:=by
 induction h with
 |one h1=>exact .one (hr _ _ h1)
 |snoc _ h1 ih=>exact .snoc ih (hr _ _ h1)
theorem Tg.head {a b:α} (h:Tg R a b):∃d,R a d:=by
 induction h with
 |one h1=>exact ⟨_,h1⟩
 |snoc _ _ ih=>exact ih
end
end Go.Proofs.YtcemhghkipgdiaaGreatDoor
