/-
  Derivations in one configuration, and the least sets that are closed under productions.
-/
import Derived.Test.YtcemhghkipgdiaaGreatDoorIt
import Derived.Test.YtcemhghkipgdiaaGreatDoorQm
import Derived.Test.YtcemhghkipgdiaaGreatDoorHb
namespace Go.Proofs.YtcemhghkipgdiaaGreatDoor
open Go Go.Proofs.Tryz Tr
set_option maxRecDepth 10000
instance decSy (q:Option Sy):Decidable (∃s,q=some s/\s.t=true):=
 match q with
 |none=>isFalse λ⟨_,h,_⟩=>by cases h
 |some s=>if h:s.t=true then isTrue ⟨s,rfl,h⟩ else isFalse λ⟨_,h1,h2⟩=>by cases h1;exact h h2
instance decEntry (r:List Sy) (k v lo hi:Int):Decidable (dY r k v lo hi):=by unfold dY;infer_instance
instance decLay (r:List Sy) (x:Cn):Decidable (xA r x):=by unfold xA;infer_instance
instance decBrk (p:Pr):Decidable (xB p):=by unfold xB;infer_instance
instance decDet (p:Pr):Decidable (mi p):=by unfold mi;infer_instance
def J0 (nn:Nat) (p:Pr):Prop:=(0<=p.left/\p.left<nn)/\p.right.length<=5/\(∀s∈p.right,0<=s.i/\(s.t=true->s.i<9)/\(s.t=false->s.i<nn))/\(-1<=p.rank/\p.rank<=1)/\p.lay.length<=2/\mi p/\(p.name≠emp/\p.name.size<=13)
instance decPri (nn:Nat) (p:Pr):Decidable (J0 nn p):=by unfold J0;infer_instance
theorem aW {n nn:Nat} {p:Pr} (h:J0 nn p) (hc:SxD n p.cond):PrI n nn p:=by obtain ⟨h1,h2,h3,h4,h5,h6,h7⟩:=h;exact ⟨hc,h1,h2,h3,h4,h5,h6,h7⟩
theorem dI {n v:Nat} (hv:v<n) (hn:n<=6):SxD n (dia (tv v)):=⟨_,Sx.tv hv hn,rfl⟩
theorem nZ {n v:Nat} (hv:v<n) (hn:n<=6):SxD n (cT v):=⟨_,(Sx.tv hv hn).ap2 (Sx.leaf n true),rfl⟩
def Ct (s:ByteArray):Prop:=s.size≠2\/s.data[0]?≠some 112
instance (s:ByteArray):Decidable (Ct s):=by unfold Ct;infer_instance
theorem FF {s:ByteArray} (h:Ct s) (k:Nat):s≠aZ k:=by
 intro e;rcases h with h|h
 ·exact h (by rw [e];rfl)
 ·exact h (by rw [e];rfl)
theorem mU {g:Gr} {n:Nat} (hn:n<=3) (hc:g.conds=abc.take n) (hf:g.fam=aK) (ht:g.toks=dR) (hs:g.start=0) (h1:bz g.nons) (h2:∀s∈g.nons,s.size<=10) (h3:(g.prods.map Pr.name).Nodup) (h4:∀s∈g.prods.map Pr.name,Ct s)
  (h5:∀p∈g.prods,PrI g.conds.length g.nons.length p) (h6:eF g [] g.lvs/\∀l∈g.lvs,SxD g.conds.length l.cond) (h7:∀x∈g.fils,ca g x/\SxD g.conds.length x.cond/\x.toks.length<=2):MG g:=by
 have e:dR.map rS=dR:=rfl;refine ⟨⟨n,hn,hc⟩,⟨_,Sx.leaf _ true,by simp,hf⟩,⟨h1,h2⟩,hs,⟨by rw [ht];exact e,λt htm=> ?_⟩,⟨h3,λp hp k _ _=>FF (h4 _ (List.mem_map_of_mem hp)) k⟩,h5,h6,h7⟩;rw [ht,<- e] at htm;obtain ⟨u,_,rfl⟩:=SY.1 htm;exact aR _
theorem FG {g:Gr} (ht:g.toks=dR) (i:Nat) {kd:Tk->Bool} {t:Tk} (h:dR[i]? =some t) (hk:kd t=true):0<=(i:Int)/\∃t,g.toks[(i:Int).toNat]? =some t/\kd t=true:=⟨by omega,t,by rw [ht,N5];exact h,hk⟩
theorem Ma {g:Gr} {kd:Tk->Bool} {i:Int} (h:0<=i/\∃t,g.toks[i.toNat]? =some t/\kd t=true):fI g kd [i]:=by refine ⟨by simp,λn hn=>by rw [SL.1 hn];exact h,λj x y _ hy=> ?_⟩;simp at hy
theorem QB {g:Gr} {kd:Tk->Bool} {i j:Int} (h:0<=i/\∃t,g.toks[i.toNat]? =some t/\kd t=true) (h':0<=j/\∃t,g.toks[j.toNat]? =some t/\kd t=true) (hij:i<j):fI g kd [i,j]:=by
 refine ⟨by simp,λn hn=> ?_,λk x y hx hy=> ?_⟩
 ·rcases SK.1 hn with rfl|hn
  ·exact h
  ·rw [SL.1 hn];exact h'
 ·match k with
  |0=>simp at hx hy;subst hx hy;exact hij
  |k+1=>simp at hy
theorem ph:MG cu:=by
 refine mU (n:=2) (by decide) rfl rfl rfl rfl (by unfold bz;decide) (by decide) (by decide) (by decide) (λp hp=> ?_) ⟨?_,?_⟩ ?_
 ·rcases SK.1 hp with rfl|hp
  ·exact aW (by decide) (aR _)
  rcases SK.1 hp with rfl|hp
  ·exact aW (by decide) (aR _)
  rcases SK.1 hp with rfl|hp
  ·exact aW (by decide) (aR _)
  rcases SK.1 hp with rfl|hp
  ·exact aW (by decide) (aR _)
  rcases SK.1 hp with rfl|hp
  ·exact aW (by decide) (dI (by decide) (by decide))
  cases hp
 ·refine ⟨⟨by decide,by decide,(aR 2).fit (by decide),by decide,by decide,by decide⟩,⟨by decide,by decide,(aR 2).fit (by decide),by decide,by decide,by decide⟩,⟨by decide,by decide,(nZ (n:=2) (v:=0) (by decide) (by decide)).fit (by decide),by decide,by decide,by decide⟩,trivial⟩
 ·intro l hl;rcases SK.1 hl with rfl|hl
  ·exact aR _
  rcases SK.1 hl with rfl|hl
  ·exact aR _
  rcases SK.1 hl with rfl|hl
  ·exact nZ (by decide) (by decide)
  cases hl
 ·intro x hx;cases hx
theorem rC:MG bY:=by
 refine mU (n:=2) (by decide) rfl rfl rfl rfl (by unfold bz;decide) (by decide) (by decide) (by decide) (λp hp=> ?_) ⟨?_,?_⟩ ?_
 ·rcases SK.1 hp with rfl|hp
  ·exact aW (by decide) (aR _)
  rcases SK.1 hp with rfl|hp
  ·exact aW (by decide) (aR _)
  rcases SK.1 hp with rfl|hp
  ·exact aW (by decide) (aR _)
  rcases SK.1 hp with rfl|hp
  ·exact aW (by decide) (aR _)
  rcases SK.1 hp with rfl|hp
  ·exact aW (by decide) (aR _)
  cases hp
 ·trivial
 ·intro l hl;cases hl
 ·intro x hx;rcases SK.1 hx with rfl|hx
  ·exact ⟨⟨(dI (n:=2) (v:=0) (by decide) (by decide)).fit (by decide),.inl ⟨.inr rfl,⟨by decide,by decide,by decide,_,_,rfl,rfl,rfl⟩,rfl,rfl,rfl⟩⟩,dI (by decide) (by decide),by decide⟩
  rcases SK.1 hx with rfl|hx
  ·exact ⟨⟨(dI (n:=2) (v:=1) (by decide) (by decide)).fit (by decide),.inr (.inr ⟨rfl,⟨QB (FG rfl 5 rfl (by decide)) (FG rfl 6 rfl (by decide)) (by decide),by decide,_,rfl,rfl,rfl⟩,rfl,rfl,rfl,rfl⟩)⟩,dI (by decide) (by decide),by decide⟩
  cases hx
theorem nN:MG cR:=by
 refine mU (n:=2) (by decide) rfl rfl rfl rfl (by unfold bz;decide) (by decide) (by decide) (by decide) (λp hp=> ?_) ⟨?_,?_⟩ ?_
 ·rcases SK.1 hp with rfl|hp
  ·exact aW (by decide) (aR _)
  rcases SK.1 hp with rfl|hp
  ·exact aW (by decide) (aR _)
  rcases SK.1 hp with rfl|hp
  ·exact aW (by decide) (aR _)
  rcases SK.1 hp with rfl|hp
  ·exact aW (by decide) (aR _)
  rcases SK.1 hp with rfl|hp
  ·exact aW (by decide) (aR _)
  rcases SK.1 hp with rfl|hp
  ·exact aW (by decide) (aR _)
  rcases SK.1 hp with rfl|hp
  ·exact aW (by decide) (dI (by decide) (by decide))
  cases hp
 ·trivial
 ·intro l hl;cases hl
 ·intro x hx;cases hx
theorem A7:MG jk:=by
 refine mU (n:=2) (by decide) rfl rfl rfl rfl (by unfold bz;decide) (by decide) (by decide) (by decide) (λp hp=> ?_) ⟨?_,?_⟩ ?_
 ·rcases SK.1 hp with rfl|hp
  ·exact aW (by decide) (aR _)
  rcases SK.1 hp with rfl|hp
  ·exact aW (by decide) (aR _)
  rcases SK.1 hp with rfl|hp
  ·exact aW (by decide) (aR _)
  rcases SK.1 hp with rfl|hp
  ·exact aW (by decide) (aR _)
  rcases SK.1 hp with rfl|hp
  ·exact aW (by decide) (dI (by decide) (by decide))
  cases hp
 ·trivial
 ·intro l hl;cases hl
 ·intro x hx;cases hx
theorem xd:MG gx:=by
 refine mU (n:=2) (by decide) rfl rfl rfl rfl (by unfold bz;decide) (by decide) (by decide) (by decide) (λp hp=> ?_) ⟨?_,?_⟩ ?_
 ·rcases SK.1 hp with rfl|hp
  ·exact aW (by decide) (aR _)
  rcases SK.1 hp with rfl|hp
  ·exact aW (by decide) (aR _)
  rcases SK.1 hp with rfl|hp
  ·exact aW (by decide) (aR _)
  rcases SK.1 hp with rfl|hp
  ·exact aW (by decide) (aR _)
  rcases SK.1 hp with rfl|hp
  ·exact aW (by decide) (aR _)
  rcases SK.1 hp with rfl|hp
  ·exact aW (by decide) (dI (by decide) (by decide))
  cases hp
 ·trivial
 ·intro l hl;cases hl
 ·intro x hx;rcases SK.1 hx with rfl|hx
  ·exact ⟨⟨(dI (n:=2) (v:=0) (by decide) (by decide)).fit (by decide),.inr (.inl ⟨.inl rfl,⟨by decide,by decide,Ma (FG rfl 0 rfl (by decide))⟩,rfl,rfl,rfl,rfl⟩)⟩,dI (by decide) (by decide),by decide⟩
  rcases SK.1 hx with rfl|hx
  ·exact ⟨⟨(nZ (n:=2) (v:=1) (by decide) (by decide)).fit (by decide),.inr (.inl ⟨.inr rfl,⟨by decide,by decide,Ma (FG rfl 1 rfl (by decide))⟩,rfl,rfl,rfl,rfl⟩)⟩,nZ (by decide) (by decide),by decide⟩
  cases hx
theorem xe:MG gy:=by
 refine mU (n:=2) (by decide) rfl rfl rfl rfl (by unfold bz;decide) (by decide) (by decide) (by decide) (λp hp=> ?_) ⟨?_,?_⟩ ?_
 ·rcases SK.1 hp with rfl|hp
  ·exact aW (by decide) (aR _)
  rcases SK.1 hp with rfl|hp
  ·exact aW (by decide) (aR _)
  rcases SK.1 hp with rfl|hp
  ·exact aW (by decide) (aR _)
  rcases SK.1 hp with rfl|hp
  ·exact aW (by decide) (aR _)
  rcases SK.1 hp with rfl|hp
  ·exact aW (by decide) (dI (by decide) (by decide))
  cases hp
 ·trivial
 ·intro l hl;cases hl
 ·intro x hx;cases hx
theorem Cv {k:Nat} (hk:k<6):MG (bZ k):=by
 have h:k=0\/k=1\/k=2\/k=3\/k=4\/k=5:=by omega
 rcases h with rfl|rfl|rfl|rfl|rfl|rfl
 ·exact ph
 ·exact rC
 ·exact nN
 ·exact A7
 ·exact xd
 ·exact xe
theorem Cw (x:Rw):MG (cZ x):=by
 unfold cZ;split
 ·rename_i h;exact Cv (of_decide_eq_true h)
 ·have hn:(ff x).length≠0:=by unfold ff;rw [S6];simp
  refine mU (n:=x.n % 4) (by omega) rfl rfl rfl rfl ?_ (λs hs=> ?_) (by show ([⟨#[102,105,114,115,116]⟩]:List ByteArray).Nodup;simp) (λs hs=>by rw [SL.1 (show s∈([⟨#[102,105,114,115,116]⟩]:List ByteArray) from hs)];decide) (λp hp=> ?_) ⟨trivial,λl hl=>(by cases hl)⟩ λx hx=>by cases hx
  ·have h:x.n / 4 % 3=0\/x.n / 4 % 3=1\/x.n / 4 % 3=2:=by omega
   show bz (ff x);unfold ff;rcases h with h|h|h<;>rw [h]<;>(unfold bz;decide)
  ·have:∀s∈([⟨#[83]⟩,⟨#[80]⟩,⟨#[81]⟩]:List ByteArray),s.size<=10:=by decide
   exact this s (Us hs)
  ·rw [SL.1 hp];refine aW ⟨⟨by decide,?_⟩,by decide,?_,by decide,by decide,by decide,by decide⟩ (aR _)
   ·show (0:Int)<(ff x).length;omega
   ·intro s hs;rw [SL.1 hs];exact ⟨by decide,λ_=>by decide,λh=>(by cases h)⟩
theorem zh (x:Rw):MG (cX x)/\Bd (cX x) 18 10:=by
 have hm:cC x<=10:=by unfold cC;split<;>decide
 have b1:=CB (x:=x) (pm x);have m1:=(Cw x).famG (pm x) x;have b2:=pn (x:=x) (x.lines.take (cC x)) b1;have hl:(x.lines.take (cC x)).length<=10:=by rw [S6];omega
 have hr:(x.rules.take 6).length<=6:=by rw [S6];omega
 have m2:=MG.lines (x:=x) (x.lines.take (cC x)) m1 b1 (by omega);have b3:=po (x.rules.take 6) b2;have m3:=MG.rules (x.rules.take 6) m2 b2;refine ⟨m3,?_⟩;obtain ⟨c1,c2,c3,c4,c5,c6,c7,c8,c9⟩:=b3;exact ⟨c1,c2,c3,c4,by unfold cX;omega,c6,by unfold cX;omega,c8,by unfold cX;omega⟩
section
end
section
end
section
end
section
end
section
end
section
end
end Go.Proofs.YtcemhghkipgdiaaGreatDoor
namespace Go.Proofs.YtcemhghkipgdiaaGreatDoor
open Go Go.ChangeShapes Go.WideShapes Go.ChangeAt Go.RowKit Go.Deep Go.Proofs.Tryz
set_option maxRecDepth 100000
section
variable {H:Type} {enc:TypeId×Value->H} {P:Program} {W:World}
theorem vo {α:Type} {cells:α->Ξ} {k:Nat} (hk:∀o,(cells o).length=k):∀{os:List α} {i j:Nat},j<k->(os.flatMap cells)[i*k+j]? =(os[i]?).bind λo=>(cells o)[j]?
 |[],i,j,_=>by simp
 |o::os,0,j,hj=>by rw [Ty,TY,S5,SU (by rw [hk];exact hj)];rfl
 |o::os,i+1,j,hj=>by rw [Ty,Th (by rw [hk,T7];omega),hk,show (i+1)*k+j - k=i*k+j by rw [T7];omega,vo hk hj];rfl
theorem iI {α:Type} {cells:α->Ξ} {k:Nat} (hk:∀o,(cells o).length=k):∀os:List α,(os.flatMap cells).length=os.length*k
 |[]=>by simp
 |o::os=>by rw [Ty,SO,hk,iI hk os,S8,T7,Nat.add_comm]
theorem lV {α:Type} [Inhabited α] {t e k:Nat} {cells:α->Ξ} {Q:α->Prop} (ht:P.underlying t=some (.slice e)) (hk:P.cellsOf e=k) (hk0:0<k) (hlen:∀o,(cells o).length=k)
  (elem:∀{fuel:Nat} {cs:Ξ} {x:DataW H×List MemPlace},DataW.trod enc P W 0 (λ_=>true) true fuel e cs=some x->(x.1.weights P e).all (·<=reachBytes)=true->∃o,cs=cells o/\Q o)
  {fuel:Nat} {c:Value} {x:DataW H×List MemPlace} (h:DataW.trod enc P W 0 (λ_=>true) true fuel t [c]=some x) (hw:(x.1.weights P t).all (·<=reachBytes)=true):
  ∃(sl:Sl) (os:List α),c=Sl.v sl/\RdS (hF W) sl k (os.flatMap cells)/\(∀o∈os,Q o)/\os.length=sl.len/\sl.len*P.bytesOf e<=reachBytes:=by
 rcases open_slice ht h with ⟨hcs,rfl⟩|⟨a,len,cap,m,n,D,Pl,hcs,_,hl,hm,hmm,rfl,hx⟩
 ·cases hcs;exact ⟨Sl.nil,[],rfl,RdS.nil _ _,by simp,rfl,by simp [Sl.nil]⟩
 ·cases hcs;simp only [if_true] at hmm;subst hmm;rw [hk] at hx;have hwD:∀i,i<len->((D i).weights P e).all (·<=reachBytes)=true:=λi hi=>by
   rw [Tp] at hw ⊢;intro y hy;refine hw y ?_;simp only [DataW.weights,ht];refine S7 _ (Uq _ ?_);have gen:∀(l:List (DataW H)) (d:DataW H),d∈l->∀y∈d.weights P e,y∈DataW.weightsAll P e l:=by
    intro l;induction l with
    |nil=>intro d hd;cases hd
    |cons a l ih=>
     intro d hd y hy;simp only [DataW.weightsAll,SN];rcases SK.1 hd with rfl|hd
     ·exact .inl hy
     ·exact .inr (ih d hd y hy)
   exact gen _ (D i) (SY.2 ⟨i,TB.2 hi,rfl⟩) y hy
  have hb:m*P.bytesOf e<=reachBytes:=by simp only [DataW.weights,ht,Ut,Tw,decide_eq_true_eq,SW,Tu] at hw;rw [show len+(m - len)=m by omega] at hw;exact hw.1
  have ho:∀i,i<len->∃o:α,W.cells? 0 (a.add (i*k)) k=some (cells o)/\Q o:=λi hi=>by obtain ⟨cs,h1,h2⟩:=hx i (by omega);obtain ⟨o,rfl,h3⟩:=elem h2 (hwD i hi);exact ⟨o,h1,h3⟩
  obtain ⟨O,hO⟩:=choose_lt ho;refine ⟨⟨some a,len,m⟩,(List.range len).map O,rfl,⟨?_,hl,λhp=> ?_⟩,?_,by simp,TZ (TU _ hl) hb⟩
  ·rw [iI hlen];simp
  ·simp only at hp;have h0:=(World.cells?_some (hO 0 (by omega)).1).2.2 0 hk0;obtain ⟨v0,hv0⟩:∃v,(cells (O 0))[0]? =some v:=⟨_,N4 (by rw [hlen];exact hk0)⟩;have hs:=World.cell?_spot (v:=v0) (by rw [h0];exact hv0);obtain ⟨b,o,spot⟩:=a;simp [Addr.add] at hs;subst hs;refine ⟨b,o,rfl,λi hi=> ?_⟩;rw [iI hlen,SW,Tu] at hi;have hik:i / k<len:=Nat.div_lt_of_lt_mul (by rw [Nat.mul_comm];exact hi);have hr:i % k<k:=TN _ hk0;have h1:=(World.cells?_some (hO (i / k) hik).1).2.2 (i % k) hr;have h2:=vo hlen (os:=(List.range len).map O) (i:=i / k) (j:=i % k) hr;have hdm:i / k*k+i % k=i:=by rw [Nat.mul_comm];exact Nat.div_add_mod i k
   rw [hdm] at h2;rw [<- N4,h2];simp only [SX,Tz hik,TE,Option.bind_some];rw [<- h1,aC,aC,Nat.add_assoc,hdm];rfl
  ·intro o ho;obtain ⟨i,hi,rfl⟩:=SY.1 ho;exact (hO i (TB.1 hi)).2
end
section
variable {H:Type} {enc:TypeId×Value->H} {W:World}
instance:Inhabited (Ln×Sl):=⟨⟨⟨0,[],0,0⟩,Sl.nil⟩⟩
instance:Inhabited Ru:=⟨⟨0,0,0,0,0⟩⟩
theorem Cx:prog.cellsOf 22=1:=by kernel_rfl
theorem tH:prog.cellsOf 91=4:=by kernel_rfl
theorem zi:prog.cellsOf 131=5:=by kernel_rfl
theorem FH:prog.cellsOf 26=5:=by kernel_rfl
theorem FI:prog.cellsOf 23=1:=by kernel_rfl
theorem FJ:prog.cellsOf 24=1:=by kernel_rfl
theorem eZ {z:Int} (h:(Lit.int .u8 z).wf=true):∃n:Nat,z=n/\n<256:=by obtain ⟨h1,h2⟩:=LC h;exact ⟨z.toNat,by omega,by omega⟩
theorem pi {fuel:Nat} {c:Value} {x:DataW H×List MemPlace} (h:DataW.trod enc prog W 0 (λ_=>true) true fuel 22 [c]=some x) (hw:(x.1.weights prog 22).all (·<=reachBytes)=true):
  ∃(sl:Sl) (ns:Δ),c=Sl.v sl/\RdS (hF W) sl 1 (ns.map vB)/\(∀n∈ns,n<256)/\ns.length<=9000000000000000:=by
 obtain ⟨sl,zs,rfl,hr,hz,hb,_⟩:=Et underlying22 underlying5 qw h hw;have e:(zs.map Int.toNat).map vB=zs.map (Value.int .u8):=by rw [List.map_map];refine Ux λz hz'=> ?_;obtain ⟨n,rfl,_⟩:=eZ (hz z hz');simp only [Function.comp,N5]
 refine ⟨sl,zs.map Int.toNat,rfl,by rw [e];exact hr,λn hn=> ?_,by rw [SW];exact Hc hr hb⟩;obtain ⟨z,hz',rfl⟩:=SY.1 hn;obtain ⟨n,rfl,hn'⟩:=eZ (hz z hz');rw [N5];exact hn'
theorem rP {fuel:Nat} {cs:Ξ} {x:DataW H×List MemPlace} (h:DataW.trod enc prog W 0 (λ_=>true) true fuel 91 cs=some x) (hw:(x.1.weights prog 91).all (·<=reachBytes)=true):
  ∃o:Ln×Sl,cs=[vB o.1.left,o.2.v,vB o.1.cond,vB o.1.mark]/\(RdS (hF W) o.2 1 (o.1.right.map vB)/\o.1.left<256/\o.1.cond<256/\o.1.mark<256/\∀y∈o.1.right,y<256):=by
 obtain ⟨xs,n,_,rfl,hl,hxl,hf⟩:=DataW.trod_struct underlying91 h;rw [tH] at hl
 match cs,hl with
 |[c0,c1,c2,c3],_=>
 match xs,hxl with
 |[x0,x1,x2,x3],_=>
 have f0:=hf 0 _ rfl;have f1:=hf 1 _ rfl;have f2:=hf 2 _ rfl;have f3:=hf 3 _ rfl;simp only [qw,Cx,Tt,Uy,List.take_succ_cons,Ua,List.getElem?_cons_zero,TC] at f0 f1 f2 f3;obtain ⟨z0,e0,_,w0⟩:=DataW.trod_int underlying5 f0;obtain ⟨z2,e2,_,w2⟩:=DataW.trod_int underlying5 f2;obtain ⟨z3,e3,_,w3⟩:=DataW.trod_int underlying5 f3;cases e0;cases e2;cases e3;have hw1:(x1.1.weights prog 22).all (·<=reachBytes)=true:=by rw [Tp] at hw ⊢;intro y hy;refine hw y ?_;simp only [DataW.weights,underlying91];exact DataW.weights_mem_each (j:=1) rfl rfl y hy
 obtain ⟨sl,ns,rfl,hr,hn,_⟩:=pi f1 hw1;obtain ⟨n0,rfl,k0⟩:=eZ w0;obtain ⟨n2,rfl,k2⟩:=eZ w2;obtain ⟨n3,rfl,k3⟩:=eZ w3;exact ⟨⟨⟨n0,ns,n2,n3⟩,sl⟩,rfl,hr,k0,k2,k3,hn⟩
theorem A8 {fuel:Nat} {cs:Ξ} {x:DataW H×List MemPlace} (h:DataW.trod enc prog W 0 (λ_=>true) true fuel 131 cs=some x) (_hw:(x.1.weights prog 131).all (·<=reachBytes)=true):
  ∃o:Ru,cs=[vB o.kind,vB o.a,vB o.b,vB o.c,vB o.cond]/\(o.kind<256/\o.a<256/\o.b<256/\o.c<256/\o.cond<256):=by
 obtain ⟨xs,n,_,rfl,hl,hxl,hf⟩:=DataW.trod_struct underlying131 h;rw [zi] at hl
 match cs,hl with
 |[c0,c1,c2,c3,c4],_=>
 match xs,hxl with
 |[x0,x1,x2,x3,x4],_=>
 have f0:=hf 0 _ rfl;have f1:=hf 1 _ rfl;have f2:=hf 2 _ rfl;have f3:=hf 3 _ rfl;have f4:=hf 4 _ rfl;simp only [qw,Tt,Uy,List.take_succ_cons,Ua,List.getElem?_cons_zero,TC] at f0 f1 f2 f3 f4;obtain ⟨z0,e0,_,w0⟩:=DataW.trod_int underlying5 f0;obtain ⟨z1,e1,_,w1⟩:=DataW.trod_int underlying5 f1;obtain ⟨z2,e2,_,w2⟩:=DataW.trod_int underlying5 f2;obtain ⟨z3,e3,_,w3⟩:=DataW.trod_int underlying5 f3;obtain ⟨z4,e4,_,w4⟩:=DataW.trod_int underlying5 f4;cases e0;cases e1;cases e2;cases e3;cases e4;obtain ⟨n0,rfl,k0⟩:=eZ w0;obtain ⟨n1,rfl,k1⟩:=eZ w1;obtain ⟨n2,rfl,k2⟩:=eZ w2;obtain ⟨n3,rfl,k3⟩:=eZ w3;obtain ⟨n4,rfl,k4⟩:=eZ w4;exact ⟨⟨n0,n1,n2,n3,n4⟩,rfl,k0,k1,k2,k3,k4⟩
theorem oa {α β:Type} [Mem β] {F:PH} {cells:α->Ξ} {f:α->β}:∀{os:List α},(∀o∈os,Mem.rep F (f o) (cells o).toArray)->cU F (os.map f) (os.map λo=>(cells o).toArray)
 |[],_=> .nil
 |o::os,h=> .cons (h o (by simp)) (oa λx hx=>h x (by simp [hx]))
theorem xf {α:Type} (cells:α->Ξ) (os:List α):cat (os.map λo=>(cells o).toArray)=os.flatMap cells:=by unfold cat;rw [List.flatMap_map]
theorem Cy {fuel:Nat} {cs:Γ} {x:DataW H×List MemPlace} (h:DataW.trod enc prog W 0 (λ_=>true) true fuel 26 cs.toList=some x) (hw:(x.1.weights prog 26).all (·<=reachBytes)=true):
  ∃r:Rw,vq (hF W) cs r:=by
 obtain ⟨xs,n,_,rfl,hl,hxl,hf⟩:=DataW.trod_struct underlying26 h;rw [FH] at hl;obtain ⟨cs⟩:=cs
 match cs,hl with
 |[c0,c1,c2,c3,c4],_=>
 match xs,hxl with
 |[x0,x1,x2,x3,x4],_=>
 have f0:=hf 0 _ rfl;have f1:=hf 1 _ rfl;have f2:=hf 2 _ rfl;have f3:=hf 3 _ rfl;have f4:=hf 4 _ rfl;simp only [qw,Cx,FI,FJ,Tt,Uy,List.take_succ_cons,Ua,List.getElem?_cons_zero,TC] at f0 f1 f2 f3 f4;obtain ⟨z0,e0,_,w0⟩:=DataW.trod_int underlying5 f0;obtain ⟨z1,e1,_,w1⟩:=DataW.trod_int underlying5 f1;cases e0;cases e1;have hw2:(x2.1.weights prog 22).all (·<=reachBytes)=true:=by rw [Tp] at hw ⊢;intro y hy;refine hw y ?_;simp only [DataW.weights,underlying26];exact DataW.weights_mem_each (j:=2) rfl rfl y hy
 have hw3:(x3.1.weights prog 23).all (·<=reachBytes)=true:=by rw [Tp] at hw ⊢;intro y hy;refine hw y ?_;simp only [DataW.weights,underlying26];exact DataW.weights_mem_each (j:=3) rfl rfl y hy
 have hw4:(x4.1.weights prog 24).all (·<=reachBytes)=true:=by rw [Tp] at hw ⊢;intro y hy;refine hw y ?_;simp only [DataW.weights,underlying26];exact DataW.weights_mem_each (j:=4) rfl rfl y hy
 obtain ⟨sf,ns,rfl,hr2,hn2,_⟩:=pi f2 hw2;obtain ⟨sl,ls,rfl,hr3,hq3,_,_⟩:=lV (k:=4) (cells:=λo:Ln×Sl=>[vB o.1.left,o.2.v,vB o.1.cond,vB o.1.mark]) underlying23 tH (by decide) (λ_=>rfl) rP f3 hw3;obtain ⟨sr,rs,rfl,hr4,hq4,_,_⟩:=lV (k:=5) (cells:=λo:Ru=>[vB o.kind,vB o.a,vB o.b,vB o.c,vB o.cond]) underlying24 zi (by decide) (λ_=>rfl) A8 f4 hw4;obtain ⟨n0,rfl,k0⟩:=eZ w0;obtain ⟨n1,rfl,k1⟩:=eZ w1;refine ⟨⟨n0,n1,ns,ls.map Prod.fst,rs⟩,⟨sf,sl,sr,rfl,hr2,⟨_,oa (f:=Prod.fst) (cells:=λo:Ln×Sl=>[vB o.1.left,o.2.v,vB o.1.cond,vB o.1.mark]) λo ho=> ?_,by rw [xf];exact hr3⟩,⟨_,?_,by rw [xf (λo:Ru=>[vB o.kind,vB o.a,vB o.b,vB o.c,vB o.cond])];exact hr4⟩⟩,k0,k1⟩
 ·obtain ⟨h1,h2⟩:=hq3 o ho;exact ⟨o.2,rfl,h1,h2⟩
 ·have:=oa (F:=hF W) (f:=λo:Ru=>o) (cells:=λo:Ru=>[vB o.kind,vB o.a,vB o.b,vB o.c,vB o.cond]) (os:=rs) λo ho=>⟨rfl,hq4 o ho⟩;rw [List.map_id'] at this;exact this
end
set_option maxRecDepth 100000
section
variable {H:Type} {enc:TypeId×Value->H} {W:World}
theorem xg {fuel:Nat} {c:Value} {x:DataW H×List MemPlace} (h:DataW.trod enc prog W 0 (λ_=>true) true fuel 23 [c]=some x) (hw:(x.1.weights prog 23).all (·<=reachBytes)=true):
  ∃(sl:Sl) (ls:List Ln),c=Sl.v sl/\RL (hF W) sl ls:=by
 obtain ⟨sl,ls,rfl,hr3,hq3,_,_⟩:=lV (k:=4) (cells:=λo:Ln×Sl=>[vB o.1.left,o.2.v,vB o.1.cond,vB o.1.mark]) underlying23 tH (by decide) (λ_=>rfl) rP h hw;refine ⟨sl,ls.map Prod.fst,rfl,_,oa (f:=Prod.fst) (cells:=λo:Ln×Sl=>[vB o.1.left,o.2.v,vB o.1.cond,vB o.1.mark]) λo ho=> ?_,by rw [xf];exact hr3⟩;obtain ⟨h1,h2⟩:=hq3 o ho;exact ⟨o.2,rfl,h1,h2⟩
end
end Go.Proofs.YtcemhghkipgdiaaGreatDoor
namespace Go.Proofs.YtcemhghkipgdiaaGreatDoor
open Go Go.Proofs.Tryz Tr
theorem pj {k:Nat}:∀{t:Tr},dS k t->∀{c d:Cf},(∀i,i<k->c i=d i)->t.ev c=t.ev d
 |leaf _,_,_,_,_=>rfl
 |node v l h,⟨h1,h2,h3⟩,c,d,hc=>by simp only [Tr.ev];rw [hc v h1,pj h2 hc,pj h3 hc]
def xj (c:Cf):Nat->Nat
 |0=>0
 |k+1=>xj c k+if c k=true then 2 ^ k else 0
theorem tI (c:Cf):∀k,xj c k<2 ^ k
 |0=>Nat.one_pos
 |k+1=>by have:=tI c k;rw [Nat.pow_succ,xj];split<;>omega
theorem pk (c:Cf):∀{k i:Nat},i<k->(xj c k).testBit i=c i
 |0,_,h=>by omega
 |k+1,i,h=>by
  have hlt:=tI c k;rw [xj];by_cases e:i=k
  ·subst e;by_cases hc:c i=true
   ·rw [if_pos hc,Nat.add_comm,Nat.testBit_two_pow_add_eq,Nat.testBit_lt_two_pow hlt,hc];rfl
   ·rw [if_neg hc,Uf,Nat.testBit_lt_two_pow hlt];simpa using (TL.2 hc).symm
  ·have hi:i<k:=by omega
   by_cases hc:c k=true
   ·rw [if_pos hc,Nat.add_comm,Nat.testBit_two_pow_add_gt hi];exact pk c hi
   ·rw [if_neg hc,Uf];exact pk c hi
theorem rQ {α:Type} {p q:α->Bool}:∀{l:List α},(∀x∈l,p x=true->q x=true)->(l.filter p).length<=(l.filter q).length/\∀x∈l,q x=true->p x=false->(l.filter p).length<(l.filter q).length
 |[],_=>⟨SM _,λ_ h=>by cases h⟩
 |y::l,h=>by
  obtain ⟨h1,h2⟩:=rQ (l:=l) λx hx=>h x (S7 _ hx);have hy:=h y (by simp);have e1:((y::l).filter p).length=(l.filter p).length+if p y=true then 1 else 0:=by rw [List.filter_cons];split<;>simp
  have e2:((y::l).filter q).length=(l.filter q).length+if q y=true then 1 else 0:=by rw [List.filter_cons];split<;>simp
  rw [e1,e2];refine ⟨?_,λx hx hq hp=> ?_⟩
  ·by_cases hpy:p y=true
   ·rw [if_pos hpy,if_pos (hy hpy)];omega
   ·rw [if_neg hpy];omega
  ·rcases SK.1 hx with rfl|hx
   ·rw [if_pos hq,if_neg (by rw [hp];exact T4)];omega
   ·have:=h2 x hx hq hp;by_cases hpy:p y=true
    ·rw [if_pos hpy,if_pos (hy hpy)];omega
    ·rw [if_neg hpy];omega
def wt (k:Nat) (t:Tr):Nat:=((List.range (2 ^ k)).filter λm=>t.ev λi=>m.testBit i).length
theorem HQ (k:Nat) (t:Tr):wt k t<=2 ^ k:=by unfold wt;exact TZ (List.length_filter_le _ _) (by rw [Tu];exact SM _)
theorem Mb {k:Nat} {a b:Tr} (ha:Sx k a) (hb:Sx k b) (hle:∀c,a.ev c=true->b.ev c=true):wt k a<=wt k b/\(a≠b->wt k a<wt k b):=by
 obtain ⟨h1,h2⟩:=rQ (p:=λm:Nat=>a.ev λi=>m.testBit i) (q:=λm=>b.ev λi=>m.testBit i) (l:=List.range (2 ^ k)) λx _=>hle _;refine ⟨h1,λhne=> ?_⟩;have hex:¬∀c,a.ev c=b.ev c:=λh=>hne (dZ ha.1 hb.1 h);have ⟨c,hc⟩:∃c,a.ev c≠b.ev c:=Classical.not_forall.1 hex;have e:∀{t:Tr},Sx k t->t.ev (λi=>(xj c k).testBit i)=t.ev c:=λht=>pj ht.2 λi hi=>pk c hi;have hac:a.ev c=false:=by
  cases h:a.ev c with
  |false=>rfl
  |true=>exact absurd (h.trans (hle c h).symm) hc
 refine h2 (xj c k) (TB.2 (tI c k)) ?_ ?_
 ·show b.ev _=true;rw [e hb];cases h:b.ev c with
  |true=>rfl
  |false=>exact absurd (hac.trans h.symm) hc
 ·show a.ev _=false;rw [e ha,hac]
section
variable {κ:Type} {k:Nat}
def Sxs (k:Nat) (S:κ->Tr):Prop:=∀n,Sx k (S n)
def Lt' (S S':κ->Tr):Prop:=∀n c,(S n).ev c=true->(S' n).ev c=true
theorem Lt'.refl (S:κ->Tr):Lt' S S:=λ_ _ h=>h
theorem Lt'.trans {S T U:κ->Tr} (h:Lt' S T) (h':Lt' T U):Lt' S U:=λn c hc=>h' n c (h n c hc)
theorem Lt'.antisymm {S T:κ->Tr} (hS:Sxs k S) (hT:Sxs k T) (h:Lt' S T) (h':Lt' T S):S=T:=by
 funext n;refine dZ (hS n).1 (hT n).1 λc=> ?_;cases e:(S n).ev c with
 |true=>exact (h n c e).symm
 |false=>
  cases e':(T n).ev c with
  |false=>rfl
  |true=>rw [h' n c e'] at e;cases e
def mu (k:Nat) (keys:List κ) (S:κ->Tr):Nat:=(keys.map λn=>2 ^ k - wt k (S n)).sum
theorem zj {S T:κ->Tr} (hS:Sxs k S) (hT:Sxs k T) (h:Lt' S T):∀keys:List κ,mu k keys T<=mu k keys S/\∀n∈keys,S n≠T n->mu k keys T<mu k keys S
 |[]=>⟨SM _,λ_ h=>by cases h⟩
 |x::l=>by
  obtain ⟨h1,h2⟩:=zj hS hT h l;obtain ⟨w1,w2⟩:=Mb (hS x) (hT x) (h x);have a1:=HQ k (S x);have a2:=HQ k (T x);have e:∀S:κ->Tr,mu k (x::l) S=(2 ^ k - wt k (S x))+mu k l S:=λS=>by unfold mu;rw [Te,List.sum_cons]
  rw [e,e];refine ⟨by omega,λn hn hne=> ?_⟩;rcases SK.1 hn with rfl|hn
  ·have:=w2 hne;omega
  ·have:=h2 n hn hne;omega
variable [DecidableEq κ]
def eC (S:κ->Tr) (n:κ) (t:Tr):κ->Tr:=λi=>if i=n then t else S i
theorem rR (S:κ->Tr) (n:κ):eC S n (S n)=S:=by
 funext i;unfold eC;split
 ·rename_i e;rw [e]
 ·rfl
theorem Sxs.upd {S:κ->Tr} (h:Sxs k S) {n:κ} {t:Tr} (ht:Sx k t):Sxs k (eC S n t):=λi=>by
 unfold eC;split
 ·exact ht
 ·exact h i
noncomputable def cq (S:κ->Tr) (n:κ) (d:Tr):κ->Tr:=eC S n (ap2 oOr (S n) d)
theorem fk {S:κ->Tr} (h:Sxs k S) {n:κ} {d:Tr} (hd:Sx k d) (i:κ) (c:Cf):(cq S n d i).ev c=((S i).ev c || (decide (i=n) && d.ev c)):=by
 unfold cq eC;by_cases e:i=n
 ·rw [if_pos e,decide_eq_true e,e,(bj (h n).1 hd.1).2];rfl
 ·rw [if_neg e,decide_eq_false e];simp
theorem di {S:κ->Tr} (h:Sxs k S) {n:κ} {d:Tr} (hd:Sx k d):Sxs k (cq S n d):=h.upd ((h n).ap2 hd)
theorem dX {S:κ->Tr} (h:Sxs k S) {n:κ} {d:Tr} (hd:Sx k d):Lt' S (cq S n d):=λi c hc=>by rw [fk h hd,hc];rfl
end
inductive Der (l:List Pr) (P:Nat->Tr) (st:Bool) (c:Cf):Int->Prop
 |mk (i:Nat) (x:Pr):l[i]? =some x->(P i).ev c=true->(∀s∈x.right,s.t=true->st=false)->(∀s∈x.right,s.t=false->Der l P st c s.i)->Der l P st c x.left
section
variable {k:Nat} {l:List Pr} {P:Nat->Tr} {st:Bool}
noncomputable def dk (S:Int->Tr):Tr->List Sy->Tr
 |d,[]=>d
 |d,s::r=>dk S (if s.t=true then d else ap2 ba d (S s.i)) r
theorem bi {S:Int->Tr} (hS:Sxs k S):∀(r:List Sy) {d:Tr},Sx k d->Sx k (dk S d r)/\∀c,(dk S d r).ev c=(d.ev c && r.all λs=>s.t || (S s.i).ev c)
 |[],d,hd=>⟨hd,λc=>by simp [dk]⟩
 |s::r,d,hd=>by
  unfold dk;by_cases h:s.t=true
  ·rw [if_pos h];obtain ⟨h1,h2⟩:=bi hS r hd;exact ⟨h1,λc=>by rw [h2,Ut,h];simp⟩
  ·rw [if_neg h];obtain ⟨h1,h2⟩:=bi hS r (hd.ap2 (o:=ba) (hS s.i));refine ⟨h1,λc=> ?_⟩;rw [h2,Ut,(bj hd.1 (hS s.i).1).2,TL.2 h,Uv,Bool.and_assoc]
def fU (st:Bool) (x:Pr):Bool:=st && x.right.any (·.t)
noncomputable def iw (st:Bool) (P:Nat->Tr):Nat->List Pr->(Int->Tr)->Int->Tr
 |_,[],S=>S
 |i,x::l,S=>iw st P (i+1) l (if fU st x=true then S else cq S x.left (dk S (P i) x.right))
theorem fV {S:Int->Tr} (hS:Sxs k S) {i:Nat} (hP:Sx k (P i)) (x:Pr):
  Sxs k (if fU st x=true then S else cq S x.left (dk S (P i) x.right))/\Lt' S (if fU st x=true then S else cq S x.left (dk S (P i) x.right)):=by
 obtain ⟨h1,_⟩:=bi hS x.right hP;split
 ·exact ⟨hS,Lt'.refl S⟩
 ·exact ⟨di hS h1,dX hS h1⟩
theorem jQ (hP:∀i,Sx k (P i)):∀(l:List Pr) (i:Nat) {S:Int->Tr},Sxs k S->Sxs k (iw st P i l S)/\Lt' S (iw st P i l S)/\∀n,iw st P i l S n≠S n->∃x∈l,x.left=n
 |[],i,S,hS=>⟨hS,Lt'.refl S,λn h=>absurd rfl h⟩
 |x::l,i,S,hS=>by
  obtain ⟨a1,a2⟩:=fV (st:=st) hS (hP i) x;unfold iw;obtain ⟨b1,b2,b3⟩:=jQ hP l (i+1) a1;refine ⟨b1,a2.trans b2,λn hn=> ?_⟩;by_cases e:x.left=n
  ·exact ⟨x,by simp,e⟩
  ·have:(if fU st x=true then S else cq S x.left (dk S (P i) x.right)) n=S n:=by
    split
    ·rfl
    ·unfold cq eC;rw [if_neg (Ne.symm e)]
   obtain ⟨y,hy,hl⟩:=b3 n (by rw [this];exact hn);exact ⟨y,S7 _ hy,hl⟩
theorem mV (hP:∀i,Sx k (P i)):∀(l:List Pr) (i:Nat) {S:Int->Tr},Sxs k S->iw st P i l S=S->
  ∀(j:Nat) (x:Pr),l[j]? =some x->fU st x=false->∀c,(dk S (P (i+j)) x.right).ev c=true->(S x.left).ev c=true
 |[],_,_,_,_,j,_,h,_=>by simp at h
 |y::l,i,S,hS,he,j,x,hj,hs=>by
  obtain ⟨a1,a2⟩:=fV (st:=st) hS (hP i) y;unfold iw at he;obtain ⟨b1,b2,_⟩:=jQ (st:=st) hP l (i+1) a1;have e1:(if fU st y=true then S else cq S y.left (dk S (P i) y.right))=S:=by refine Lt'.antisymm a1 hS ?_ a2;rw [he] at b2;exact b2
  rw [e1] at he;cases j with
  |zero=>simp at hj;subst hj;rw [hs,if_neg T4] at e1;intro c hc;have:=fk hS (n:=y.left) (bi hS y.right (hP i)).1 y.left c;rw [e1,decide_eq_true rfl,T8] at this;rw [this];rw [Uf] at hc;rw [hc,Bool.or_true]
  |succ j=>intro c hc;refine mV hP l (i+1) hS he j x (by simpa using hj) hs c ?_;rw [show i+1+j=i+(j+1) by omega];exact hc
def Snd (l:List Pr) (P:Nat->Tr) (st:Bool) (S:Int->Tr):Prop:=∀n c,(S n).ev c=true->Der l P st c n
theorem vp (hP:∀i,Sx k (P i)):∀(m:List Pr) (i:Nat) {S:Int->Tr},(∀j x,m[j]? =some x->l[i+j]? =some x)->Sxs k S->Snd l P st S->Snd l P st (iw st P i m S)
 |[],_,_,_,_,h=>h
 |x::m,i,S,hl,hS,h=>by
  obtain ⟨a1,a2⟩:=fV (st:=st) hS (hP i) x;unfold iw;refine vp hP m (i+1) (λj y hj=>by rw [show i+1+j=i+(j+1) by omega];exact hl (j+1) y (by simpa using hj)) a1 ?_;by_cases hsk:fU st x=true
  ·rw [if_pos hsk];exact h
  ·rw [if_neg hsk];intro n c hc;obtain ⟨f1,f2⟩:=bi hS x.right (hP i);rw [fk hS f1] at hc;rcases Ue.1 hc with hc|hc
   ·exact h n c hc
   ·obtain ⟨e,hc⟩:=Tc.1 hc;have e:=of_decide_eq_true e;rw [f2] at hc;obtain ⟨h1,h2⟩:=Tc.1 hc;rw [Tp] at h2;rw [e];refine .mk i x (by have:=hl 0 x rfl;rwa [Uf] at this) h1 (λs hs ht=> ?_) λs hs ht=> ?_
    ·cases hst:st with
     |false=>rfl
     |true=>refine absurd ?_ hsk;unfold fU;rw [hst,T8,TT];exact ⟨s,hs,ht⟩
    ·have:=h2 s hs;rw [ht,Uv] at this;exact h _ _ this
theorem xk {S:Int->Tr} (hS:Sxs k S) (hP:∀i,Sx k (P i)) (hc:∀(j:Nat) (x:Pr),l[j]? =some x->fU st x=false->∀c,(dk S (P j) x.right).ev c=true->(S x.left).ev c=true) {c:Cf} {n:Int} (h:Der l P st c n):(S n).ev c=true:=by
 induction h with
 |mk i x hi hp ht _ ih=>
  refine hc i x hi ?_ c ?_
  ·unfold fU;cases hst:st with
   |false=>rfl
   |true=>rw [T8,<- Uh,TT];rintro ⟨s,hs,h⟩;have:=ht s hs h;rw [hst] at this;cases this
  ·rw [(bi hS x.right (hP i)).2,hp,T8,Tp];intro s hs;cases h:s.t with
   |true=>rfl
   |false=>rw [Uv];exact ih s hs h
structure eD (k:Nat) (l:List Pr) (P:Nat->Tr) (st:Bool) (S:Int->Tr):Prop where
 sx:Sxs k S
 iff:∀n c,(S n).ev c=true↔Der l P st c n
theorem Cz {S:Int->Tr} (hP:∀i,Sx k (P i)) (hS:Sxs k S) (h:Snd l P st S) (he:iw st P 0 l S=S):eD k l P st S:=
 ⟨hS,λn c=>⟨h n c,xk hS hP λj x hj hs c hc=>mV hP l 0 hS he j x hj hs c (by rw [S5];exact hc)⟩⟩
end
end Go.Proofs.YtcemhghkipgdiaaGreatDoor
