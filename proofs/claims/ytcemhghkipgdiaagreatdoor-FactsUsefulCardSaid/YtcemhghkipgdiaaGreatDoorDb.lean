/-
  Where a production is present, by the reference; where its symbols are in their sets; unions.
-/
import Derived.Test.YtcemhghkipgdiaaGreatDoorCb
import Derived.Test.YtcemhghkipgdiaaGreatDoorGkoineref05
import Derived.Test.YtcemhghkipgdiaaGreatDoorQm
import Derived.Test.YtcemhghkipgdiaaGreatDoorEd
import Derived.Test.YtcemhghkipgdiaaGreatDoorPhn
import Derived.Test.YtcemhghkipgdiaaGreatDoorQr
import Derived.Test.YtcemhghkipgdiaaGreatDoorIo
import Derived.Test.YtcemhghkipgdiaaGreatDoorAb
import Derived.Test.YtcemhghkipgdiaaGreatDoorGbits
import Derived.Test.YtcemhghkipgdiaaGreatDoorEr
import Derived.Test.YtcemhghkipgdiaaGreatDoorEx
import Derived.Test.YtcemhghkipgdiaaGreatDoorHr
import Derived.Test.YtcemhghkipgdiaaGreatDoorAt
import Derived.Test.YtcemhghkipgdiaaGreatDoorAm
import Derived.Test.YtcemhghkipgdiaaGreatDoorCe
namespace Go.Proofs.YtcemhghkipgdiaaGreatDoor
open Go Go.Proofs.Tryz Tr
set_option maxRecDepth 10000
section
end
section
end
section
end
section
end
section
end
abbrev PrQ:=Nat×Nat
section
end
section
end
end Go.Proofs.YtcemhghkipgdiaaGreatDoor
namespace Go.Proofs.YtcemhghkipgdiaaGreatDoor
set_option maxRecDepth 10000
structure Two where
 acc:PrQ->Nat->Prop
 lnk:PrQ->PrQ->Prop
 ini:PrQ->Prop
 fin:PrQ->Prop
namespace Two
end Two
section
end
section
end
end Go.Proofs.YtcemhghkipgdiaaGreatDoor
namespace Go.Proofs.YtcemhghkipgdiaaGreatDoor
open Go Go.Proofs.Tryz
set_option maxRecDepth 10000
section
end
section
end
section
end
section
end
end Go.Proofs.YtcemhghkipgdiaaGreatDoor
namespace Go.Proofs.YtcemhghkipgdiaaGreatDoor
open Go Go.Proofs.Tryz Tr
set_option maxRecDepth 10000
section
end
section
end
section
end
section
end
section
end
abbrev Ps (α:Type):=Δ->Option (α×Δ)
section
end
section
end
section
end
section
end
section
end
theorem MG.addP {g:Gr} (h:MG g) {p:Pr} (hn:∀q∈g.prods,q.name≠p.name) (hl:∀k,p.name≠be k) (hp:PrI g.conds.length g.nons.length p):MG {g with prods:=g.prods++[p]}:=by
 refine ⟨h.cs,h.fam,h.nons,h.start,h.toks,⟨?_,λq hq k hk hk2=> ?_⟩,λq hq=> ?_,⟨dS (g:=g) (g':={g with prods:=g.prods++[p]}) rfl (by show _<=(g.prods++[p]).length;rw [Tn];omega) _ _ h.lvs.1,h.lvs.2⟩,λx hx=>⟨pM (h.fils x hx).1,(h.fils x hx).2⟩⟩
 ·show ((g.prods++[p]).map Pr.name).Nodup;rw [TX,TN];refine ⟨h.names.1,by simp,λx hx y hy=> ?_⟩;rw [TK,List.map_nil,Ti] at hy;obtain ⟨q,hq,rfl⟩:=Tw.1 hx;rw [hy];exact hn q hq
 ·replace hk:(g.prods++[p]).length<=k:=hk;rw [Tn,Ty] at hk;rcases Tm.1 hq with hq|hq
  ·exact h.names.2 q hq k (by omega) hk2
  ·rw [Ti.1 hq];exact hl k
 ·rcases Tm.1 hq with hq|hq
  ·exact h.prods q hq
  ·rw [Ti.1 hq];exact hp
theorem Bd.addP {g:Gr} {a b:Nat} (h:Bd g a b) (p:Pr):Bd {g with prods:=g.prods++[p]} (a+1) b:=by have hp:=h.p;exact ⟨h.c,h.n0,h.n,by show (g.prods++_).length≠0;rw [Tn,Ty];omega,by show (g.prods++[_]).length<=_;rw [Tn,Ty];omega,h.t,h.l,h.lp,h.f⟩
theorem w6 (g:Gr) (y:Ru):(ruleG g y).prods=g.prods/\(ruleG g y).nons=g.nons:=by
 unfold ruleG mv jM tokG
 repeat' split
 all_goals exact ⟨rfl,rfl⟩
theorem mb:∀(l:List Ru) (g:Gr),(dR l g).prods=g.prods/\(dR l g).nons=g.nons
 |[],g=>⟨rfl,rfl⟩
 |y::l,g=>by have:=mb l (ruleG g y);have h2:=w6 g y;exact ⟨this.1.trans h2.1,this.2.trans h2.2⟩
theorem yT (x:Rw) (g:Gr):(famG x g).prods=g.prods/\(famG x g).nons=g.nons:=by unfold famG;split<;>exact ⟨rfl,rfl⟩
def Mg (p:Pr):Prop:=∃s∈p.right,s.t=true
def Mh (p:Pr):Prop:=∀s∈p.right,s.t=false->p.left<s.i
theorem Ff (p:Pr) (m:Nat):(cu p m).left=p.left/\(cu p m).right=p.right:=by
 unfold cu
 repeat' split
 all_goals exact ⟨rfl,rfl⟩
theorem yU {l:List Sy} (h:dD l≠0):∃s∈l,s.t=true:=by have:(l.filter (·.t))≠[]:=λe=>h (by unfold dD;rw [e];rfl);obtain ⟨s,hs⟩:=List.exists_mem_of_ne_nil _ this;exact ⟨s,(UO.1 hs).1,(UO.1 hs).2⟩
theorem me {x:Rw}:∀(l:List Ln) (g:Gr),(dC x l g).nons=g.nons/\∀p∈(dC x l g).prods,p∈g.prods\/((∃k,p.name=be k)/\(Mg p\/(bL x=false/\Mh p)))
 |[],g=>⟨rfl,λp hp=> .inl hp⟩
 |y::l,g=>by
  obtain ⟨e,ih⟩:=me l (lineG g y (bL x));have e':(dC x (y::l) g)=dC x l (lineG g y (bL x)):=rfl;rw [e'];by_cases hc:dD (aN g.nons.length y)=0/\(bL x=true\/cM (y.left % g.nons.length) (aN g.nons.length y)=false)
  ·have e2:lineG g y (bL x)=g:=by unfold lineG;rw [if_pos hc]
   rw [e2] at e ih ⊢;exact ⟨e,ih⟩
  ·have e2:lineG g y (bL x)={g with prods:=g.prods++[cu (iU g y) y.mark]}:=by unfold lineG;rw [if_neg hc]
   rw [e2] at e ih ⊢;refine ⟨e,λp hp=> ?_⟩;rcases ih p hp with h|h
   ·rcases Tm.1 h with h|h
    ·exact .inl h
    ·refine .inr ?_;rw [Ti.1 h];obtain ⟨m1,m2⟩:=Ff (iU g y) y.mark;refine ⟨⟨g.prods.length,by rw [pN];rfl⟩,?_⟩;unfold Mg Mh;rw [m1,m2];by_cases ht:dD (aN g.nons.length y)=0
     ·refine .inr ⟨?_,λs hs hst=> ?_⟩
      ·cases hk:bL x with
       |false=>rfl
       |true=>exact absurd ⟨ht,.inl hk⟩ hc
      ·have hl:cM (y.left % g.nons.length) (aN g.nons.length y)=true:=by
        cases hl:cM (y.left % g.nons.length) (aN g.nons.length y) with
        |true=>rfl
        |false=>exact absurd ⟨ht,.inr hl⟩ hc
       unfold cM at hl;rw [TU] at hl;have:=hl s hs;rw [hst,UY] at this;exact of_decide_eq_true this
     ·exact .inl (yU ht)
   ·exact .inr h
theorem yV (x:Rw):(cZ x).nons=(de x).nons/\∀p∈(cZ x).prods,p∈(de x).prods\/((∃k,p.name=be k)/\(Mg p\/(bL x=false/\Mh p))):=by unfold cZ;obtain ⟨a1,a2⟩:=mb (x.rules.take 6) (dC x (x.lines.take (cD x)) (famG x (de x)));obtain ⟨b1,b2⟩:=me (x:=x) (x.lines.take (cD x)) (famG x (de x));obtain ⟨c1,c2⟩:=yT x (de x);rw [a1,a2,b1,c2];refine ⟨rfl,λp hp=> ?_⟩;have:=b2 p hp;rwa [c1] at this
def fc (k:Nat):ByteArray:=⟨#[113]⟩++⟨#[UInt8.ofNat (97+k)]⟩
def HQ:ByteArray:=⟨#[99,121,99,108,101]⟩
def Cw:ByteArray:=⟨#[110,111,116,104,105,110,103]⟩
def mV (s:ByteArray):Prop:=(s.size≠2\/s.data[0]?≠some 113)/\s≠HQ/\s≠Cw
instance (s:ByteArray):Decidable (mV s):=by unfold mV;infer_instance
theorem Mi {s:ByteArray} (h:mV s) (k:Nat):s≠fc k:=λe=>by
 rcases h.1 with h|h
 ·exact h (by rw [e];rfl)
 ·exact h (by rw [e];rfl)
theorem Cx (k:Nat):mV (be k):=⟨.inr (by show some 112≠some 113;decide),λe=>by
 have:=congrArg ByteArray.size e;exact absurd this (by show (2:Nat)≠5;decide),λe=>by
 have:=congrArg ByteArray.size e
 exact absurd this (by show (2:Nat)≠7;decide)⟩
theorem yW (k i:Nat):fc k≠be i:=λe=>by have h1:(#[113,UInt8.ofNat (97+k)]:Array UInt8)= #[112,UInt8.ofNat (97+i)]:=congrArg ByteArray.data e;have h2:=congrArg (λa=>a[0]?) h1;simp at h2
theorem Cy {i k:Nat} (hi:i<100) (hk:k<100) (h:fc i=fc k):i=k:=by
 have h1:(#[113,UInt8.ofNat (97+i)]:Array UInt8)= #[113,UInt8.ofNat (97+k)]:=congrArg ByteArray.data h;have h2:=congrArg (λa=>a[1]?) h1;have h3:UInt8.ofNat (97+i)=UInt8.ofNat (97+k):=by simpa using h2
 have h4:=congrArg UInt8.toNat h3;simp at h4;omega
theorem w7 {k:Nat} (hk:k<6):(∀s∈(cd k).prods.map Pr.name,mV s)/\∀s∈(cd k).nons,s.size=1:=by
 have h:k=0\/k=1\/k=2\/k=3\/k=4\/k=5:=by omega
 rcases h with rfl|rfl|rfl|rfl|rfl|rfl
 ·exact ⟨by show ∀s∈cw.prods.map Pr.name,mV s;decide,by show ∀s∈cw.nons,s.size=1;decide⟩
 ·exact ⟨by show ∀s∈ca.prods.map Pr.name,mV s;decide,by show ∀s∈ca.nons,s.size=1;decide⟩
 ·exact ⟨by show ∀s∈cU.prods.map Pr.name,mV s;decide,by show ∀s∈cU.nons,s.size=1;decide⟩
 ·exact ⟨by show ∀s∈ju.prods.map Pr.name,mV s;decide,by show ∀s∈ju.nons,s.size=1;decide⟩
 ·exact ⟨by show ∀s∈gC.prods.map Pr.name,mV s;decide,by show ∀s∈gC.nons,s.size=1;decide⟩
 ·exact ⟨by show ∀s∈gD.prods.map Pr.name,mV s;decide,by show ∀s∈gD.nons,s.size=1;decide⟩
theorem w8 (x:Rw):(∀p∈(de x).prods,mV p.name)/\∀s∈(de x).nons,s.size=1:=by
 unfold de;split
 ·rename_i h;obtain ⟨h1,h2⟩:=w7 (of_decide_eq_true h);exact ⟨λp hp=>h1 _ (List.mem_map_of_mem hp),h2⟩
 ·refine ⟨λp hp=> ?_,λs hs=> ?_⟩
  ·rw [Ti.1 hp];decide
  ·have:∀s∈([⟨#[83]⟩,⟨#[80]⟩,⟨#[81]⟩]:List ByteArray),s.size=1:=by decide
   exact this s (UU hs)
theorem yX (x:Rw):(∀p∈(cZ x).prods,mV p.name)/\∀s∈(cZ x).nons,s.size=1:=by
 obtain ⟨h1,h2⟩:=yV x;obtain ⟨a1,a2⟩:=w8 x;refine ⟨λp hp=> ?_,by rw [h1];exact a2⟩;rcases h2 p hp with h|⟨⟨k,h⟩,_⟩
 ·exact a1 p h
 ·rw [h];exact Cx k
def bV (nn b:Nat):Sy:=if 200<b then ⟨true,((b % 9:Nat):Int)⟩ else ⟨false,((b % nn:Nat):Int)⟩
noncomputable def mW (g:Gr) (i:Nat) (y:Ln):Pr:={bB (fc i) ((y.left % g.nons.length:Nat):Int) ((y.right.take 3).map (bV g.nons.length)) with cond:=dia (iJ y.cond g.conds.length)}
noncomputable def Fh (g:Gr) (i:Nat) (y:Ln):Gr:={g with prods:=g.prods++[mW g i y]}
noncomputable def eE (g:Gr):Nat->List Ln->Gr
 |_,[]=>g
 |i,y::l=>eE (Fh g i y) (i+1) l
noncomputable def fR (x:Rw) (more:List Ln):Gr:=eE (cZ x) 0 (more.take 4)
theorem nY (y:Ln):∀(l:List Ln) (g:Gr) (i:Nat),eE g i (l++[y])=Fh (eE g i l) (i+l.length) y
 |[],g,i=>rfl
 |z::l,g,i=>by rw [TZ];unfold eE;rw [nY y l,TC];congr 1;omega
theorem Cz {g:Gr} (i:Nat) (y:Ln) (hc:g.conds.length<=3) (hn:g.nons.length≠0):PrI g.conds.length g.nons.length (mW g i y):=by
 have hlen:((y.right.take 3).map (bV g.nons.length)).length<=3:=by rw [Tu,TA];omega
 refine ⟨⟨_,jo (by omega),rfl⟩,⟨by show (0:Int)<=((y.left % g.nons.length:Nat):Int);omega,?_⟩,by show ((y.right.take 3).map _).length<=5;omega,λs hs=> ?_,⟨by show (-1:Int)<=0;decide,by show (0:Int)<=1;decide⟩,by show 0<=2;decide,⟨λy hy=>(by cases hy),iS _ _ _,iS _ _ _,λh=>(by cases h)⟩,?_,?_⟩
 ·show ((y.left % g.nons.length:Nat):Int)<_;have:=Ui y.left (UB hn);omega
 ·obtain ⟨b,hb,rfl⟩:=Tw.1 (show s∈(y.right.take 3).map (bV g.nons.length) from hs);unfold bV;split
  ·exact ⟨by show (0:Int)<=((b % 9:Nat):Int);omega,λ_=>by show ((b % 9:Nat):Int)<9;omega,λh=>(by cases h)⟩
  ·refine ⟨by show (0:Int)<=((b % g.nons.length:Nat):Int);omega,λh=>(by cases h),λ_=> ?_⟩;show ((b % g.nons.length:Nat):Int)<_;have:=Ui b (UB hn);omega
 ·intro e;have h2:(2:Nat)=0:=congrArg ByteArray.size (show fc i=emp from e);cases h2
 ·show (fc i).size<=13;show 2<=13;decide
structure LG (g:Gr) (i:Nat):Prop where
 mg:MG g
 bd:Bd g (18+i) 10
 nm:∀p∈g.prods,∀k,i<=k->k<100->p.name≠fc k
theorem LG.made (x:Rw):LG (cZ x) 0:=⟨(zC x).1,(zC x).2,λp hp k _ _=>Mi ((yX x).1 p hp) k⟩
theorem LG.add {g:Gr} {i:Nat} (h:LG g i) (hi:i<50) (y:Ln):LG (Fh g i y) (i+1):=by
 refine ⟨h.mg.addP (λq hq=>h.nm q hq i (Tj _) (by omega)) (λk=>yW i k) (Cz i y h.bd.c h.bd.n0),h.bd.addP _,λp hp k hk hk2=> ?_⟩;rcases Tm.1 (show p∈g.prods++[mW g i y] from hp) with hp|hp
 ·exact h.nm p hp k (by omega) hk2
 ·rw [Ti.1 hp];intro e;have:=Cy (by omega) hk2 (show fc i=fc k from e);omega
theorem LG.list:∀(l:List Ln) {g:Gr} {i:Nat},LG g i->i+l.length<50->LG (eE g i l) (i+l.length)
 |[],_,_,h,_=>h
 |y::l,g,i,h,hl=>by rw [TC] at hl ⊢;have:=LG.list l (h.add (by omega) y) (by omega);rwa [show i+1+l.length=i+(l.length+1) by omega] at this
theorem Fj (x:Rw) (more:List Ln):LG (fR x more) (min 4 more.length):=by have:=LG.list (more.take 4) (LG.made x) (by rw [TA];omega);rwa [TA,Tz] at this
section
variable {g:Gr} {i:Nat}
theorem LG.ok (h:LG g i) (hi:i<=50):OkK g g.conds.length:=⟨h.mg.ok h.bd (by omega) (by decide),rfl,by have:=h.bd.c;omega⟩
theorem LG.rl (h:LG g i):∀x∈g.prods,x.right.length<=1000000:=λx hx=>by have:=(h.mg.prods x hx).rl;omega
end
theorem Qa:∃b z,SlT 50 63 2 b z:=Ki
theorem Kh:∃b z,SlT 33 55 13 b z:=⟨_,_,underlying33,Ni,Nm,rfl,by decide,by decide⟩
abbrev yY (nm:ByteArray) (left:Int) (r n:Sl) (d:Int):Γ:= #[.string nm,vi left,r.v,n.v,vi d,.bool false,vi 0,.slice none 0 0,.bool false,vi 0,vi 0,vi 0,vi 0]
theorem CA (l:List Sy) (y:Sy):cat (l.map Sy.arr)++y.arr.toList=cat ((l++[y]).map Sy.arr):=by rw [TX,bQ];simp [cat]
theorem yZ {G:PH} (l:List Sy):cO G l (l.map Sy.arr):=by
 induction l with
 |nil=>exact .nil
 |cons x l ih=>exact .cons rfl ih
section
variable {F:PH}
theorem y4 {v:Γ} {x:Rw} {sm:Sl} {more:List Ln} (hx:xE F v x) (hm:RL F sm more):aj prog 13 #[.agg v,sm.v] F (LR F (fR x more)):=by
 obtain ⟨_,_,TS⟩:=Qa;obtain ⟨_,_,TP⟩:=Kh;have em:=hm.len (by decide);have emc:=hm.cap;refine Tb ?_;unfold QY;have hvs:v.size=5:=by obtain ⟨⟨a,b,c,rfl,_⟩,_⟩:=hx;rfl
 refine (St.start F).newG λb2 G1 F1 l1 q2 _ h=>h.new λb4 F2 h=>⟨v,hvs,ac (h.le _ _ q2),?_⟩;refine h.run (P:=λr G'=>∃w,r=.agg w/\GV G' w (cZ x)) (vU (hx.le l1)) λ_ G3 F3 hr l3 h=> ?_;obtain ⟨w,rfl,hg⟩:=hr;refine ⟨w,rfl,?_⟩;obtain ⟨c,n,t,s,p,l,f,rfl,hgs⟩:=hg;have l13:=aa l1 l3;refine h.new λb5 F4 h=> ?_;refine h.put0 (w':=(cZ x).arr c n t s p l f) rfl rfl (by simp [al,Sl.v]) λF5 h=> ?_;have hmin:(more.take 4).length=min 4 more.length:=TA ..
 refine bC (zy · sm b4 b5 _) (min 4 more.length) (λi F'=>∃(G':PH) (p':Sl),G3.le G'/\GS G' (eE (cZ x) 0 ((more.take 4).take i)) c n t s p' l f/\
  ∃Bs,St G' F' ([pt b5 (.cells ((eE (cZ x) 0 ((more.take 4).take i)).arr c n t s p' l f) 37),pt b4 (.cells zG 37)]++Bs)) ⟨G3,p,aq _,hgs,[],h⟩ ?_
 rintro i F6 N1 hi ⟨G4,p4,l4,hg4,Bs,h⟩ next;replace h:St G4 F6 [pt b5 (.cells ((eE (cZ x) 0 ((more.take 4).take i)).arr c n t s p4 l f) 37),pt b4 (.cells zG 37)]:=h.pick id (λ_ _ _ _ e=>e) λi hi=>by rw [id,Tt hi]
 unfold zy;have lg:LG (eE (cZ x) 0 ((more.take 4).take i)) i:=by have:=LG.list ((more.take 4).take i) (LG.made x) (by rw [TA,hmin];omega);rw [TA,hmin,Tz] at this;rwa [show min i (min 4 more.length)=i by omega] at this
 have done:i=min 4 more.length->vI b4 b5 (LR F (fR x more)) F6:=λe=>by
  have e2:eE (cZ x) 0 ((more.take 4).take i)=fR x more:=by unfold fR;rw [Ts (l:=more.take 4) (by omega)]
  rw [e2] at h hg4;unfold vI;refine ⟨_,rfl,ac (h.ptAt (i:=0) rfl),?_⟩;refine h.put1 (w':=(fR x more).arr c n t s p4 l f) rfl rfl (by simp [al,Sl.v]) λF7 h=> ?_;exact ⟨_,rfl,ac (h.ptAt (i:=1) rfl),⟨_,rfl,c,n,t,s,p4,l,f,rfl,hg4.le h.le⟩,aa l13 (aa l4 h.le)⟩
 refine ⟨λhlt=>⟨λhi4=> ?_,λhi4=>done (by omega)⟩,λhlt=>done (by omega)⟩;have hil:i<more.length:=by omega
 have hi4':i<4:=by omega
 obtain ⟨y,hy⟩:∃y,more[i]? =some y:=⟨_,N4 hil⟩;have htake:(more.take 4).take (i+1)=(more.take 4).take i++[y]:=by rw [Uj,T6 (by omega),hy];rfl
 have hnext:eE (cZ x) 0 ((more.take 4).take (i+1))=Fh (eE (cZ x) 0 ((more.take 4).take i)) i y:=by rw [htake,nY,Tz,TA,hmin,show min i (min 4 more.length)=i by omega]
 generalize eE (cZ x) 0 ((more.take 4).take i)=g at*;have es:=hg4.s.len (by decide);have ec:=hg4.c.len (by decide);have ep:=hg4.p.len (by decide);have hc3:=lg.bd.c;have hn0:=lg.bd.n0;have hn3:=lg.bd.n;have hp22:=lg.bd.p;have l14:=aa l13 l4;refine ixc (hm.le l14) (by decide) (by omega) (by omega) λa31 c31 y' hy' hrow31 hc31=> ?_;rw [N6,hy] at hy';cases hy';obtain ⟨ry,rfl,hry,hyl,hyc,_,hyr⟩:=hc31;have ery:=hry.len;rw [Tu,TT] at ery;refine ⟨(y.left:Int),aU (aT h.le hrow31) rfl,s,ld (h.ptAt (i:=0) rfl) rfl,by omega,?_⟩;have el:Int.tmod (IntKind.i64.wrap (y.left:Int)) (s.len:Int)=((y.left % g.nons.length:Nat):Int):=by rw [es,aP (by omega) (by omega),fI]
 have ecx:IntKind.u8.wrap (IntKind.i64.wrap ((97:Int)+(i:Int)))=((97+i:Nat):Int):=by rw [show (97:Int)+(i:Int)=((97+i:Nat):Int) by omega,aP (by omega) (by omega),vX (by omega)]
 rw [ecx,el];have sz2:(ByteArray.mk #[113]).size+(ByteArray.mk #[UInt8.ofNat (97+i)]).size<=9223372036854775807:=by show 1+1<=9223372036854775807;decide
 have fin:∀{G' F':PH} {b7:Nat},G4.le G'->St G' F' [pt b7 (.cells (yY (fc i) ((y.left % g.nons.length:Nat):Int) Sl.nil Sl.nil 0) 55),pt b5 (.cells (g.arr c n t s p4 l f) 37),pt b4 (.cells zG 37)]->
   vM N1 sm b4 b5 (i:Int) (some (Addr.mk b7 0 none)) (LR F (fR x more)) F':=λ{G' F' b7} l5 h=>by
  unfold vM;refine ixc (hm.le (aa l14 l5)) (by decide) (by omega) (by omega) λa42 c42 y' hy' hrow42 hc42=> ?_;rw [N6,hy] at hy';cases hy';obtain ⟨ry,rfl,hry,hyl,hyc,_,hyr⟩:=hc42;have ery:=hry.len;rw [Tu,TT] at ery;refine ⟨ry,bM (aT h.le hrow42) (i:=1) rfl,?_⟩;have h:=(h.nilOwn 63 2).swap;have hmr:(y.right.take 3).length=min 3 y.right.length:=TA ..
  refine bC (zx N1 · sm b4 b5 (i:Int) (some (Addr.mk b7 0 none)) ry _) (min 3 y.right.length) (λk F'=>∃(G'':PH) (sr:Sl),G'.le G''/\sr.len=k/\
   ∃Bs,St G'' F' ([pt b7 (.cells (yY (fc i) ((y.left % g.nons.length:Nat):Int) sr Sl.nil 0) 55),own sr 63 2 (cat ((((y.right.take 3).map (bV g.nons.length)).take k).map Sy.arr)),pt b5 (.cells (g.arr c n t s p4 l f) 37),pt b4 (.cells zG 37)]++Bs)) ⟨G',Sl.nil,aq _,rfl,[],h⟩ ?_
  rintro k F7 N2 hk ⟨G5,sr,l6,hsr,Bs,h⟩ next2;replace h:St G5 F7 [pt b7 (.cells (yY (fc i) ((y.left % g.nons.length:Nat):Int) sr Sl.nil 0) 55),own sr 63 2 (cat ((((y.right.take 3).map (bV g.nons.length)).take k).map Sy.arr)),pt b5 (.cells (g.arr c n t s p4 l f) 37),pt b4 (.cells zG 37)]:=h.pick id (λ_ _ _ _ e=>e) λi hi=>by rw [id,Tt hi]
  have l46:=aa l5 l6;unfold zx;have done2:k=min 3 y.right.length->vK N1 sm b4 b5 (i:Int) (some (Addr.mk b7 0 none)) (LR F (fR x more)) F7:=λe=>by
   rw [Ts (by rw [Tu,hmr];omega)] at h;obtain ⟨G6,l7,hd,h⟩:=h.swap.pinO;have hsy:RL G6 sr ((y.right.take 3).map (bV g.nons.length)):=⟨_,yZ _,hd⟩;have l47:=aa l46 l7;have hg6:=hg4.le l47;unfold vK;refine ixc (hm.le (aa l14 l47)) (by decide) (by omega) (by omega) λa85 c85 y' hy' hrow85 hc85=> ?_;rw [N6,hy] at hy';cases hy';obtain ⟨ry',rfl,_⟩:=hc85;refine ⟨(y.cond:Int),bM (aT h.le hrow85) (i:=2) rfl,c,ld (h.ptAt (i:=1) rfl) rfl,?_⟩;dsimp only;rw [ec];refine h.run (pP y.cond g.conds.length hyc (by omega) _) λ_ G7 F8 hr l8 h=> ?_;obtain ⟨⟨_,rfl,hw⟩,-⟩:=hr;obtain ⟨m,rfl,hmm⟩:=hw.out;refine ⟨_,rfl,ld (h.ptAt (i:=1) rfl) rfl,_,rfl,?_⟩;simp only [aC];refine h.putR0 (o:=3) (w':=(mW g i y).arr sr m Sl.nil) rfl (by simp [al,Sl.v]) (by show 3+2<=13;decide) rfl λF9 h=> ?_;have hP:Mem.rep G7 (mW g i y) ((mW g i y).arr sr m Sl.nil):=⟨sr,m,Sl.nil,rfl,hsy.le l8,hmm,RL.nil _⟩;refine ⟨p4,ld (h.ptAt (i:=1) rfl) rfl,_,rfl,ac (h.ptAt (i:=0) rfl),?_⟩;have hg7:=hg6.le l8;refine St.grow TP h hg7.p hP (by omega) rfl (λG' F' st=>ac (st.ptAt (i:=0) rfl)) λs' G8 F10 l9 hs' h=> ?_;have hg8:=hg7.le l9;refine h.set1 (w':=(Fh g i y).arr c n t s s' l f) (by show 5<9;decide) rfl λF11 h=> ?_;unfold vJ;rw [aH (n:=4) hi4' (by decide)];have hlt':i<min 4 more.length:=by omega
   have hfin:=next F11 hlt';rw [hnext] at hfin;exact hfin ⟨G8,s',aa l4 (aa l47 (aa l8 l9)),⟨hg8.c,hg8.n,hg8.t,hg8.s,hs',hg8.l,hg8.f⟩,_,h.rot⟩
  refine ⟨λhkl=>⟨λhk3=> ?_,λhk3=>done2 (by omega)⟩,λhkl=>done2 (by omega)⟩;have hkr:k<y.right.length:=by omega
  obtain ⟨b,hb⟩:∃b,y.right[k]? =some b:=⟨_,N4 hkr⟩;have hb256:b<256:=hyr b (To hb);have hsym:((y.right.take 3).map (bV g.nons.length))[k]? =some (bV g.nons.length b):=by rw [Tx,T6 (by omega),hb];rfl
  have hst:((y.right.take 3).map (bV g.nons.length)).take (k+1)=((y.right.take 3).map (bV g.nons.length)).take k++[bV g.nons.length b]:=by rw [Uj,hsym];rfl
  have hat:∀{G' F':PH} {As:List (Ψ)},G5.le G'->St G' F' As->∃a,ry.base=some a/\0<=(k:Int)/\(k:Int)<(ry.len:Int)/\F'.cell (Addr.add a (Int.toNat (k:Int)*1))=some (vB b):=λl h=>
   (((hry.le l6).le l).le h.le).at6 (by rw [Tx,hb];rfl)
  obtain ⟨a57,e1,e2,e3,e4⟩:=hat (aq _) h;refine ⟨a57,e1,e2,e3,(b:Int),e4,s,ld (h.ptAt (i:=2) rfl) rfl,by omega,?_⟩;have eb:Int.tmod (IntKind.i64.wrap (b:Int)) (s.len:Int)=((b % g.nons.length:Nat):Int):=by rw [es,aP (by omega) (by omega),fI]
  have eb9:Int.tmod (IntKind.i64.wrap (b:Int)) (9:Int)=((b % 9:Nat):Int):=by rw [aP (by omega) (by omega)];exact fI b 9
  rw [eb];refine h.new λb10 F8 h=> ?_;refine h.put0 (w':= #[.bool false,vi ((b % g.nons.length:Nat):Int)]) rfl rfl (by simp [al]) λF9 h=> ?_;obtain ⟨a67,f1,f2,f3,f4⟩:=hat (aq _) h;refine ⟨a67,f1,f2,f3,(b:Int),f4,?_⟩;have fin5:∀{F':PH} {sy:Sy},sy=bV g.nons.length b->St G5 F' [pt b10 (.cells sy.arr 63),pt b7 (.cells (yY (fc i) ((y.left % g.nons.length:Nat):Int) sr Sl.nil 0) 55),own sr 63 2 (cat ((((y.right.take 3).map (bV g.nons.length)).take k).map Sy.arr)),pt b5 (.cells (g.arr c n t s p4 l f) 37),pt b4 (.cells zG 37)]->
    vL N1 N2 sm b4 b5 (i:Int) (some (Addr.mk b7 0 none)) ry (k:Int) b10 (LR F (fR x more)) F':=λ{F' sy} esy h=>by
   unfold vL;refine ⟨_,rfl,sr,by rw [aC];exact ld (h.ptAt (i:=1) rfl) rfl,sy.arr,rfl,ac (h.ptAt (i:=0) rfl),rfl,?_⟩;refine h.push2 TS (c:=sy.arr) rfl (by simp [al]) (by omega) λs' G6 F10 l7 h hl'=> ?_;rw [CA,esy,<- hst] at h;simp only [aC];refine h.set1 (w':=yY (fc i) ((y.left % g.nons.length:Nat):Int) s' Sl.nil 0) (by show 2<13;decide) rfl λF11 h=> ?_;rw [aH (n:=3) (by omega) (by decide)];exact next2 _ (by omega) ⟨G6,s',aa l6 l7,by omega,_,h.rot⟩
  refine ⟨λhgt=> ?_,λhle=> ?_⟩
  ·obtain ⟨a72,g1,g2,g3,g4⟩:=hat (aq _) h;refine ⟨a72,g1,g2,g3,(b:Int),g4,?_⟩;dsimp only;rw [eb9];refine h.put0 (w':= #[.bool true,vi ((b % 9:Nat):Int)]) rfl rfl (by simp [al]) λF10 h=> ?_;exact fin5 (sy:=⟨true,((b % 9:Nat):Int)⟩) (by unfold bV;rw [if_pos (by omega)]) h
  ·exact fin5 (sy:=⟨false,((b % g.nons.length:Nat):Int)⟩) (by unfold bV;rw [if_neg (by omega)]) h
 refine ⟨?_,?_⟩
 ·refine h.newG λb26 G5 F7 l5 q26 _ h=> ?_;refine ⟨_,gW (h.le _ _ q26),sz2,?_⟩;refine h.new λb7 F8 h=> ?_;refine h.put0 (w':=yY (fc i) ((y.left % g.nons.length:Nat):Int) Sl.nil Sl.nil 0) rfl rfl (by simp [al,Sl.v,Sl.nil]) λF9 h=> ?_;exact fin l5 h
 ·refine h.new λb7 F8 h=> ?_;refine h.newG λb26 G5 F7 l5 q26 _ h=> ?_;refine ⟨_,gW (h.le _ _ q26),sz2,?_⟩;refine h.put0 (w':=yY (fc i) ((y.left % g.nons.length:Nat):Int) Sl.nil Sl.nil 0) rfl rfl (by simp [al,Sl.v,Sl.nil]) λF9 h=> ?_;exact fin l5 h
end
theorem Fl {F:PH} {a:Addr} {x:Pr} {r n l:Sl} (h:F.row a (x.arr r n l)):F.row (a.add 3) #[n.v,vi x.cond.2]:=zV h rfl
theorem CB {F:PH} {a:Addr} {x:Tk} {p n:Sl} (h:F.row a (x.arr p n)):F.row (a.add 5) #[n.v,vi x.cond.2]:=zV h rfl
theorem mX {k:Nat} {a b:Tr} {u w:Γ} {F:PH} (hk:k<=6) (ha:Sx k a) (hb:Sx k b) (hu:DV F u (dia a)) (hw:DV F w (dia b)):aj prog 45 #[.agg u,.agg w] F λr F'=>j0 (dia (ap2 aX a b)) r F'/\F.le F':=
 (ij hu hw (ha.f2 hb hk)).mono λ_ _ ⟨w,h1,h2,h3⟩=>⟨⟨w,h1,h2⟩,h3⟩
section
variable {F:PH} {g:Gr} {k:Nat}
theorem sj {v:Γ} (hg:GV F v g) (hk:OkK g k) {i:Nat} (hi:i<g.prods.length):aj prog 70 #[.agg v,vi i] F λr F'=>j0 (dia (aF g i)) r F'/\F.le F':=by
 obtain ⟨o1,o2,o3,o4⟩:=dz hk.ok;obtain ⟨c,n,t,s,p,l,f,rfl,hs⟩:=hg;have ep:=hs.p.len (by decide);have et:=hs.t.len (by decide);refine Td ?_;unfold Q0;refine (St.start F).newG λb2 G1 F1 l1 q2 _ h=>h.new λb4 F2 h=> ?_;have hs1:=hs.le l1;have hf:DV G1 #[n.v,vi g.fam.2] (dia (tre g.fam)):=by rw [<- hk.fam.2];exact DV.mk hs1.n
 refine ⟨#[n.v,vi g.fam.2],rfl,lf (h.le _ _ q2) rfl,_,ld (h.le _ _ q2) rfl,?_⟩;refine ixc hs1.p (by decide) (by omega) (by omega) λa13 c13 x hx hrow hc=> ?_;rw [N6] at hx hrow ⊢;have hxm:=To hx;obtain ⟨hxc,hxd,_,hsy⟩:=hk.prod hxm;have hxl:=o4 x hxm;obtain ⟨r,n8,l8,rfl,hr,hn8,_⟩:=hc;have er:=hr.len (by decide);have hd2:DV G1 #[n8.v,vi x.cond.2] (dia (tre x.cond)):=by rw [<- hxd];exact DV.mk hn8
 refine ⟨#[n8.v,vi x.cond.2],rfl,aT h.le (Fl hrow),?_⟩;have hfc:=hk.fam.1.ap2 (o:=aX) hxc;have ep2:aF g i=gT g (ap2 aX (tre g.fam) (tre x.cond)) x.right:=by unfold aF;rw [hx]
 have fin:∀{G' F':PH} {y:Γ} {b5:Nat},G1.le G'->DV G' y (dia (ap2 aX (tre g.fam) (tre x.cond)))->St G' F' [pt b5 (.cells y 31),pt b4 (.cells zD 31)]->
   vO (i:Int) b2 b4 (some (Addr.mk b5 0 none)) (λr F'=>j0 (dia (aF g i)) r F'/\F.le F') F':=λ{G' F' y b5} l2 hy h=>by
  unfold vO;have q22:=l2 _ _ q2;refine ⟨_,ld (h.le _ _ q22) rfl,?_⟩;refine ixc (hs1.p.le l2) (by decide) (by omega) (by omega) λa20 c20 x' hx' hrow20 hc20=> ?_;rw [N6] at hx' hrow20 ⊢;rw [hx] at hx';cases hx';obtain ⟨r,n8,l8,rfl,hr,_⟩:=hc20;have er:=hr.len (by decide);refine ⟨r,bM (aT h.le hrow20) (i:=2) rfl,?_⟩;refine bC (zB · b2 b4 (some (Addr.mk b5 0 none)) r _) x.right.length (λj F'=>∃(G'':PH) (u:Γ),G'.le G''/\DV G'' u (dia (gT g (ap2 aX (tre g.fam) (tre x.cond)) (x.right.take j)))/\St G'' F' [pt b5 (.cells u 31),pt b4 (.cells zD 31)]) ⟨G',y,aq _,by rw [Uk];exact hy,h⟩ ?_;rintro j F3 N hj ⟨G3,u,l3,hu,h⟩ next;have l13:=aa l2 l3;unfold zB;refine ⟨λhlt=> ?_,λhge=> ?_⟩
  ·have hlt:j<x.right.length:=by omega
   refine ixc (hr.le l3) (by decide) (by omega) (by omega) λa31 c31 sy hsj hrow31 hc31=> ?_;rw [N6] at hsj;obtain rfl:c31=sy.arr:=hc31;obtain ⟨s0,_,s2⟩:=hsy sy (To hsj);have et2:=dn hsj;have hsn:=nk (g:=g) sy (x.right.take j) (ap2 aX (tre g.fam) (tre x.cond));refine ⟨sy.t,aU (aT h.le hrow31) rfl,λht=> ?_,λht=> ?_⟩
   ·rw [if_pos ht] at hsn;obtain ⟨tk,htk,_⟩:=s2 ht;have ed:im g sy.i=tre tk.cond:=by unfold im;rw [htk]
    obtain ⟨tx,td⟩:=hk.tok (To htk);have hti:sy.i.toNat<g.toks.length:=(N5.1 htk).1;refine ⟨_,rfl,u,hu.size,ac (h.ptAt (i:=0) rfl),_,ld (h.le _ _ (l3 _ _ q22)) rfl,?_⟩;refine ixc (hr.le l3) (by decide) (by omega) (by omega) λa39 c39 sy' hsj' hrow39 hc39=> ?_;rw [N6,hsj] at hsj';cases hsj';obtain rfl:c39=sy.arr:=hc39;refine ⟨sy.i,bM (aT h.le hrow39) (i:=1) rfl,?_⟩;refine ixc (hs1.t.le l13) (by decide) s0 (by omega) λa42 c42 tk' htk' hrow42 hc42=> ?_;rw [htk] at htk';cases htk';obtain ⟨pp,nn,rfl,_,hnn⟩:=hc42;have hdt:DV G3 #[nn.v,vi tk.cond.2] (dia (im g sy.i)):=by rw [ed,<- td];exact DV.mk hnn
    obtain ⟨fx,_⟩:=eO hk (x.right.take j) hfc;refine ⟨#[nn.v,vi tk.cond.2],rfl,aT h.le (CB hrow42),?_⟩;refine h.run (mX hk.le fx (hk.tkd sy.i) hu hdt) λ_ G4 F4 hr4 l4 h=> ?_;obtain ⟨z,rfl,hz⟩:=hr4;refine ⟨z,rfl,bM (aT (aa l4 h.le) hrow39) (i:=1) rfl,ld (h.le _ _ (l4 _ _ (l3 _ _ q22))) rfl,?_⟩;refine h.put0 (w':=z) hz.size hu.size hz.st λF5 h=> ?_;unfold vN;rw [aH hlt (by omega)];refine next _ hlt ⟨G4,z,aa l3 l4,?_,h⟩;rw [et2,hsn];exact hz
   ·rw [if_neg (by rw [ht];decide)] at hsn;unfold vN;rw [aH hlt (by omega)];refine next _ hlt ⟨G3,u,l3,?_,h⟩;rw [et2,hsn];exact hu
  ·have e:j=x.right.length:=by omega
   subst e;rw [Tv,<- ep2] at hu;unfold Ge;refine ⟨_,rfl,u,hu.size,ac (h.ptAt (i:=0) rfl),?_⟩;refine h.put1 (w':=u) hu.size rfl hu.st λF5 h=> ?_;exact ⟨u,hu.size,ac (h.ptAt (i:=1) rfl),⟨u,rfl,hu.le h.le⟩,aa l1 (aa l13 h.le)⟩
 refine ⟨?_,?_⟩
 ·refine h.run (mX hk.le hk.fam.1 hxc hf hd2) λ_ G3 F3 hr3 l3 h=> ?_;obtain ⟨y,rfl,hy⟩:=hr3;refine ⟨y,rfl,ld (h.le _ _ (l3 _ _ q2)) rfl,?_⟩;refine h.new λb5 F4 h=> ?_;exact h.put0 (w':=y) hy.size rfl hy.st λF5 h=>fin l3 hy h
 ·refine h.new λb5 F3 h=> ?_;refine h.run (mX hk.le hk.fam.1 hxc hf hd2) λ_ G3 F4 hr3 l3 h=> ?_;obtain ⟨y,rfl,hy⟩:=hr3;refine ⟨y,rfl,ld (h.le _ _ (l3 _ _ q2)) rfl,?_⟩;exact h.put0 (w':=y) hy.size rfl hy.st λF5 h=>fin l3 hy h
noncomputable def jg (S:Int->Tr) (st:Bool):Tr->List Sy->Tr
 |d,[]=>d
 |d,s::r=>jg S st (if s.t=true then (if st=true then leaf false else d) else ap2 aX d (S s.i)) r
theorem tH (S:Int->Tr) (st:Bool) (s:Sy):∀(r:List Sy) (d:Tr),jg S st d (r++[s])=if s.t=true then (if st=true then leaf false else jg S st d r) else ap2 aX (jg S st d r) (S s.i)
 |[],d=>rfl
 |x::r,d=>by rw [TZ];unfold jg;exact tH S st s r _
theorem eM {S:Int->Tr} {st:Bool} (hS:Sxs k S):∀(r:List Sy) {d:Tr},Sx k d->Sx k (jg S st d r)/\∀c,(jg S st d r).ev c=true↔d.ev c=true/\∀s∈r,(s.t=true->st=false)/\(s.t=false->(S s.i).ev c=true)
 |[],d,hd=>⟨hd,λc=>⟨λh=>⟨h,λ_ h=>(by cases h)⟩,λh=>h.1⟩⟩
 |s::r,d,hd=>by
  unfold jg;have split:∀{p:Prop} {q:Sy->Prop},(p/\∀y∈s::r,q y)↔(p/\q s)/\∀y∈r,q y:=λ{p q}=>
   ⟨λh=>⟨⟨h.1,h.2 s (by simp)⟩,λy hy=>h.2 y (TB _ hy)⟩,λh=>⟨h.1.1,λy hy=>by
    rcases Th.1 hy with rfl|hy
    ·exact h.1.2
    ·exact h.2 y hy⟩⟩
  by_cases hs:s.t=true
  ·rw [if_pos hs];by_cases hst:st=true
   ·rw [if_pos hst];obtain ⟨h1,h2⟩:=eM (st:=st) hS r (Sx.leaf k false);refine ⟨h1,λc=>(h2 c).trans ?_⟩;rw [split];refine and_congr_left λ_=>⟨λh=>(by cases h),λh=> ?_⟩;have:=h.2.1 hs;rw [hst] at this;cases this
   ·rw [if_neg hst];obtain ⟨h1,h2⟩:=eM (st:=st) hS r hd;refine ⟨h1,λc=>(h2 c).trans ?_⟩;rw [split];refine and_congr_left λ_=>⟨λh=>⟨h,λ_=>T5.2 hst,λh'=>(by rw [hs] at h';cases h')⟩,λh=>h.1⟩
  ·rw [if_neg hs];obtain ⟨h1,h2⟩:=eM (st:=st) hS r (hd.ap2 (o:=aX) (hS s.i));refine ⟨h1,λc=>(h2 c).trans ?_⟩;rw [split,(bi hd.1 (hS s.i).1).2];refine and_congr_left λ_=> ?_;show (d.ev c && (S s.i).ev c)=true↔_;rw [TH];exact and_congr_right λ_=>⟨λh=>⟨λh'=>absurd h' hs,λ_=>h⟩,λh=>h.2 (T5.2 hs)⟩
theorem rB {S:Int->Tr} {n:Nat} {i:Int} (h0:0<=i) (h1:i<n):(eP S n)[i.toNat]? =some (dia (S i)):=by unfold eP;rw [Tx,T1 (by omega),T8,Int.toNat_of_nonneg h0]
theorem rC (S:Int->Tr) (n:Nat):(eP S n).length=n:=by unfold eP;rw [Tu,TW]
theorem y5 {v:Γ} {S:Int->Tr} {st:Bool} {sl:Sl} (hg:GV F v g) (hk:OkK g k) {i:Nat} {x:Pr} (hx:g.prods[i]? =some x) (hS:Sxs k S) (hsl:RL F sl (eP S g.nons.length)):
  aj prog 29 #[.agg v,vi i,sl.v,.bool st] F λr F'=>j0 (dia (jg S st (aF g i) x.right)) r F'/\F.le F':=by
 obtain ⟨o1,o2,o3,o4⟩:=dz hk.ok;have hxm:=To hx;have hxl:=o4 x hxm;have hi:i<g.prods.length:=(N5.1 hx).1;obtain ⟨_,_,_,hsy⟩:=hk.prod hxm;have hg0:=hg;have esl:=hsl.len (by decide);rw [rC] at esl;obtain ⟨c,n,t,s,p,l,f,rfl,hs⟩:=hg;have ep:=hs.p.len (by decide);refine SY ?_;unfold QO;refine (St.start F).newG λb4 G1 F1 l1 q4 _ h=>h.new λb8 F2 h=> ?_;refine ⟨_,rfl,ac (h.le _ _ q4),?_⟩;refine h.run (sj (hg0.le l1) hk hi) λ_ G3 F3 hr3 l3 h=> ?_;obtain ⟨y,rfl,hy⟩:=hr3;refine ⟨y,rfl,?_⟩;refine h.new λb9 F4 h=> ?_;refine h.put0 (w':=y) hy.size rfl hy.st λF5 h=> ?_;have l13:=aa l1 l3;refine bC (zp · (i:Int) sl st b4 b8 b9 _) x.right.length (λj F'=>∃(G':PH) (u:Γ),G3.le G'/\DV G' u (dia (jg S st (aF g i) (x.right.take j)))/\St G' F' [pt b9 (.cells u 31),pt b8 (.cells zD 31)]) ⟨G3,y,aq _,by rw [Uk];exact hy,h⟩ ?_;rintro j F6 N hj ⟨G4,u,l4,hu,h⟩ next;have l14:=aa l13 l4;have q44:=l4 _ _ (l3 _ _ q4);unfold zp;refine ⟨_,ld (h.le _ _ q44) rfl,?_⟩;refine ixc (hs.p.le l14) (by decide) (by omega) (by omega) λa19 c19 x' hx' hrow19 hc19=> ?_;rw [N6] at hx' hrow19 ⊢;rw [hx] at hx';cases hx';obtain ⟨r,n8,l8,rfl,hr,_⟩:=hc19;have er:=hr.len (by decide);refine ⟨r,bM (aT h.le hrow19) (i:=2) rfl,λhlt=> ?_,λhge=> ?_⟩
 ·have hlt:j<x.right.length:=by omega
  refine ⟨_,ld (h.le _ _ q44) rfl,?_⟩;refine ixc (hs.p.le l14) (by decide) (by omega) (by omega) λa29 c29 x' hx' hrow29 hc29=> ?_;rw [N6] at hx' hrow29 ⊢;rw [hx] at hx';cases hx';obtain ⟨r',n8',l8',rfl,hr',_⟩:=hc29;have er':=hr'.len (by decide);refine ⟨r',bM (aT h.le hrow29) (i:=2) rfl,?_⟩;refine ixc hr' (by decide) (by omega) (by omega) λa33 c33 sy hsj hrow33 hc33=>⟨c33,Mem.len hc33,aT h.le hrow33,?_⟩;rw [N6] at hsj;obtain rfl:c33=sy.arr:=hc33;obtain ⟨s0,s1,_⟩:=hsy sy (To hsj);have et2:=dn hsj;have hsn:=tH S st sy (x.right.take j) (aF g i);obtain ⟨fx,_⟩:=eM (st:=st) hS (x.right.take j) (hk.prs i);refine h.var (by simp [al]) (λb11 G5 F7 l5 q11 h=> ?_) rfl rfl;have l45:=aa l4 l5;have fin:∀{G' F':PH} {u':Γ},G5.le G'->DV G' u' (dia (jg S st (aF g i) (x.right.take (j+1))))->St G' F' [pt b9 (.cells u' 31),pt b8 (.cells zD 31)]->vF N (i:Int) sl st b4 b8 b9 (j:Int) (λr F'=>j0 (dia (jg S st (aF g i) x.right)) r F'/\F.le F') F':=λ{G' F' u'} l hu' h=>by unfold vF;rw [aH hlt (by omega)];exact next _ hlt ⟨G',u',aa l45 l,hu',h⟩
  refine ⟨sy.t,ld (h.le _ _ q11) rfl,λht=> ?_,λht=> ?_⟩
  ·rw [if_pos ht] at hsn;have j3:∀{G' F':PH} {u':Γ},G5.le G'->DV G' u' (dia (jg S st (aF g i) (x.right.take (j+1))))->St G' F' [pt b9 (.cells u' 31),pt b8 (.cells zD 31)]->ny N (i:Int) sl st b4 b8 b9 (j:Int) b11 (λr F'=>j0 (dia (jg S st (aF g i) x.right)) r F'/\F.le F') F':=λ{G' F' u'} l hu' h=>by unfold ny;exact ⟨_,ld (h.le _ _ (l _ _ q11)) (show sy.arr[0]? =some (.bool sy.t) from rfl),λhc=>(by rw [ht] at hc;cases hc),λ_=>fin l hu' h⟩
   unfold vG;refine ⟨λhst=> ?_,λhst=> ?_⟩
   ·refine (h.call (dI false)).mono ?_;rintro _ F8 ⟨G6,⟨w,rfl,hw,l6⟩,h⟩;refine ⟨w,rfl,?_⟩;refine h.put0 (w':=w) hw.size hu.size hw.st λF9 h=> ?_;refine j3 l6 ?_ h;rw [et2,hsn,if_pos hst];exact hw
   ·refine j3 (aq _) ?_ h;rw [et2,hsn,if_neg (by rw [hst];decide)];exact hu.le l5
  ·rw [if_neg (by rw [ht];decide)] at hsn;have j3:ny N (i:Int) sl st b4 b8 b9 (j:Int) b11 (λr F'=>j0 (dia (jg S st (aF g i) x.right)) r F'/\F.le F') F7:=by unfold ny;have hi1:=s1 ht;refine ⟨_,ld (h.le _ _ q11) (show sy.arr[0]? =some (.bool sy.t) from rfl),λ_=> ?_,λhc=>(by rw [ht] at hc;cases hc)⟩;refine ⟨u,hu.size,ac (h.ptAt (i:=0) rfl),sy.i,ld (h.le _ _ q11) rfl,?_⟩;refine ixc (hsl.le (aa l14 l5)) (by decide) s0 (by omega) λa49 c49 dd hdd hrow49 hc49=>⟨c49,Mem.len hc49,aT h.le hrow49,?_⟩;rw [rB s0 hi1] at hdd;cases hdd;refine h.run (P:=λr' G'=>∃y,r'=.tuple #[.agg y,vi 0]/\DV G' y (dia (ap2 aX (jg S st (aF g i) (x.right.take j)) (S sy.i)))) ((gl hk.le fx (hS sy.i) (hu.le l5) (show DV G5 c49 _ from hc49)).mono λr F' ⟨x,a,b,c⟩=>⟨⟨x,a,b⟩,c⟩) λ_ G6 F8 hr6 l6 h=> ?_;obtain ⟨z,rfl,hz⟩:=hr6;refine ⟨_,_,rfl,ld (h.le _ _ (l6 _ _ q11)) rfl,?_⟩;refine h.put0 (w':=z) hz.size hu.size hz.st λF9 h=> ?_;refine fin l6 ?_ h;rw [et2,hsn];exact hz
   unfold vG;exact ⟨λhc=>(by cases hc),λ_=>j3⟩
 ·have e:j=x.right.length:=by omega
  subst e;rw [Tv] at hu;unfold FU;refine ⟨u,hu.size,ac (h.ptAt (i:=0) rfl),?_⟩;refine h.put1 (w':=u) hu.size rfl hu.st λF9 h=> ?_;exact ⟨u,hu.size,ac (h.ptAt (i:=1) rfl),⟨u,rfl,hu.le h.le⟩,aa l14 h.le⟩
end
end Go.Proofs.YtcemhghkipgdiaaGreatDoor
