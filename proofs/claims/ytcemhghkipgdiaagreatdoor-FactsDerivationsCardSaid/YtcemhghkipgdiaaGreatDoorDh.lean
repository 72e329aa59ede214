/-
  FactsDerivations: what is present in a configuration, and derivation steps.
-/
import Derived.Test.YtcemhghkipgdiaaGreatDoorAt
import Derived.Test.YtcemhghkipgdiaaGreatDoorAm
import Derived.Test.YtcemhghkipgdiaaGreatDoorLm
import Derived.Test.YtcemhghkipgdiaaGreatDoorAy
import Derived.Test.YtcemhghkipgdiaaGreatDoorEl
import Derived.Test.YtcemhghkipgdiaaGreatDoorGdiagram
import Derived.Test.YtcemhghkipgdiaaGreatDoorEs
import Derived.Test.YtcemhghkipgdiaaGreatDoorCc
namespace Go.Proofs.YtcemhghkipgdiaaGreatDoor
open Go.IntKind (i64 u8 u64)
open Go Go.Proofs.Tryz Tr
set_option maxRecDepth 10000
theorem MG.addP {g:Gr} (h:MG g) {p:Pr} (hn:∀q∈g.prods,q.name≠p.name) (hl:∀k,p.name≠ba k) (hp:PrI g.conds.length g.nons.length p):MG {g with prods:=g.prods++[p]}:=by
 refine ⟨h.cs,h.fam,h.nons,h.start,h.toks,⟨?_,λq hq k hk hk2=> ?_⟩,λq hq=> ?_,⟨dP (g:=g) (g':={g with prods:=g.prods++[p]}) rfl (by show _<=(g.prods++[p]).length;rw [TQ];omega) _ _ h.lvs.1,h.lvs.2⟩,λx hx=>⟨pM (h.fils x hx).1,(h.fils x hx).2⟩⟩
 ·show ((g.prods++[p]).map Pr.name).Nodup;rw [Ui,Uj];refine ⟨h.names.1,by simp,λx hx y hy=> ?_⟩;rw [Ue,List.map_nil,TO] at hy;obtain ⟨q,hq,rfl⟩:=T3.1 hx;rw [hy];exact hn q hq
 ·replace hk:(g.prods++[p]).length<=k:=hk;rw [TQ,TY] at hk;rcases TR.1 hq with hq|hq
  ·exact h.names.2 q hq k (by omega) hk2
  ·rw [TO.1 hq];exact hl k
 ·rcases TR.1 hq with hq|hq
  ·exact h.prods q hq
  ·rw [TO.1 hq];exact hp
theorem Bd.addP {g:Gr} {a b:Nat} (h:Bd g a b) (p:Pr):Bd {g with prods:=g.prods++[p]} (a+1) b:=by have hp:=h.p;exact ⟨h.c,h.n0,h.n,by show (g.prods++_).length≠0;rw [TQ,TY];omega,by show (g.prods++[_]).length<=_;rw [TQ,TY];omega,h.t,h.l,h.lp,h.f⟩
theorem xm (g:Gr) (y:Ru):(ruleG g y).prods=g.prods/\(ruleG g y).nons=g.nons:=by
 unfold ruleG mB jL tokG
 repeat' split
 all_goals exact ⟨rfl,rfl⟩
theorem mh:∀(l:List Ru) (g:Gr),(dO l g).prods=g.prods/\(dO l g).nons=g.nons
 |[],g=>⟨rfl,rfl⟩
 |y::l,g=>by have:=mh l (ruleG g y);have h2:=xm g y;exact ⟨this.1.trans h2.1,this.2.trans h2.2⟩
theorem zk (x:Rw) (g:Gr):(famG x g).prods=g.prods/\(famG x g).nons=g.nons:=by unfold famG;split<;>exact ⟨rfl,rfl⟩
def MC (p:Pr):Prop:=∃s∈p.right,s.t=true
def MD (p:Pr):Prop:=∀s∈p.right,s.t=false->p.left<s.i
theorem FI (p:Pr) (m:Nat):(cq p m).left=p.left/\(cq p m).right=p.right:=by
 unfold cq
 repeat' split
 all_goals exact ⟨rfl,rfl⟩
theorem zl {l:List Sy} (h:dE l≠0):∃s∈l,s.t=true:=by have:(l.filter (·.t))≠[]:=λe=>h (by unfold dE;rw [e];rfl);obtain ⟨s,hs⟩:=List.exists_mem_of_ne_nil _ this;exact ⟨s,(UZ.1 hs).1,(UZ.1 hs).2⟩
theorem mi {x:Rw}:∀(l:List Ln) (g:Gr),(dD x l g).nons=g.nons/\∀p∈(dD x l g).prods,p∈g.prods\/((∃k,p.name=ba k)/\(MC p\/(bK x=false/\MD p)))
 |[],g=>⟨rfl,λp hp=> .inl hp⟩
 |y::l,g=>by
  obtain ⟨e,ih⟩:=mi l (lineG g y (bK x));have e':(dD x (y::l) g)=dD x l (lineG g y (bK x)):=rfl;rw [e'];by_cases hc:dE (aO g.nons.length y)=0/\(bK x=true\/cP (y.left % g.nons.length) (aO g.nons.length y)=false)
  ·have e2:lineG g y (bK x)=g:=by unfold lineG;rw [if_pos hc]
   rw [e2] at e ih ⊢;exact ⟨e,ih⟩
  ·have e2:lineG g y (bK x)={g with prods:=g.prods++[cq (iW g y) y.mark]}:=by unfold lineG;rw [if_neg hc]
   rw [e2] at e ih ⊢;refine ⟨e,λp hp=> ?_⟩;rcases ih p hp with h|h
   ·rcases TR.1 h with h|h
    ·exact .inl h
    ·refine .inr ?_;rw [TO.1 h];obtain ⟨m1,m2⟩:=FI (iW g y) y.mark;refine ⟨⟨g.prods.length,by rw [pN];rfl⟩,?_⟩;unfold MC MD;rw [m1,m2];by_cases ht:dE (aO g.nons.length y)=0
     ·refine .inr ⟨?_,λs hs hst=> ?_⟩
      ·cases hk:bK x with
       |false=>rfl
       |true=>exact absurd ⟨ht,.inl hk⟩ hc
      ·have hl:cP (y.left % g.nons.length) (aO g.nons.length y)=true:=by
        cases hl:cP (y.left % g.nons.length) (aO g.nons.length y) with
        |true=>rfl
        |false=>exact absurd ⟨ht,.inr hl⟩ hc
       unfold cP at hl;rw [Uk] at hl;have:=hl s hs;rw [hst,Vx] at this;exact of_decide_eq_true this
     ·exact .inl (zl ht)
   ·exact .inr h
theorem zn (x:Rw):(dg x).nons=(di x).nons/\∀p∈(dg x).prods,p∈(di x).prods\/((∃k,p.name=ba k)/\(MC p\/(bK x=false/\MD p))):=by unfold dg;obtain ⟨a1,a2⟩:=mh (x.rules.take 6) (dD x (x.lines.take (cG x)) (famG x (di x)));obtain ⟨b1,b2⟩:=mi (x:=x) (x.lines.take (cG x)) (famG x (di x));obtain ⟨c1,c2⟩:=zk x (di x);rw [a1,a2,b1,c2];refine ⟨rfl,λp hp=> ?_⟩;have:=b2 p hp;rwa [c1] at this
def fe (k:Nat):ByteArray:=⟨#[113]⟩++⟨#[UInt8.ofNat (97+k)]⟩
def Ir:ByteArray:=⟨#[99,121,99,108,101]⟩
def CP:ByteArray:=⟨#[110,111,116,104,105,110,103]⟩
def nf (s:ByteArray):Prop:=(s.size≠2\/s.data[0]?≠some 113)/\s≠Ir/\s≠CP
instance (s:ByteArray):Decidable (nf s):=by unfold nf;infer_instance
theorem ME {s:ByteArray} (h:nf s) (k:Nat):s≠fe k:=λe=>by
 rcases h.1 with h|h
 ·exact h (by rw [e];rfl)
 ·exact h (by rw [e];rfl)
theorem CQ (k:Nat):nf (ba k):=⟨.inr (by show some 112≠some 113;decide),λe=>by
 have:=congrArg ByteArray.size e;exact absurd this (by show (2:Nat)≠5;decide),λe=>by
 have:=congrArg ByteArray.size e
 exact absurd this (by show (2:Nat)≠7;decide)⟩
theorem zo (k i:Nat):fe k≠ba i:=λe=>by have h1:(#[113,UInt8.ofNat (97+k)]:Array UInt8)= #[112,UInt8.ofNat (97+i)]:=congrArg ByteArray.data e;have h2:=congrArg (λa=>a[0]?) h1;simp at h2
theorem CR {i k:Nat} (hi:i<100) (hk:k<100) (h:fe i=fe k):i=k:=by
 have h1:(#[113,UInt8.ofNat (97+i)]:Array UInt8)= #[113,UInt8.ofNat (97+k)]:=congrArg ByteArray.data h;have h2:=congrArg (λa=>a[1]?) h1;have h3:UInt8.ofNat (97+i)=UInt8.ofNat (97+k):=by simpa using h2
 have h4:=congrArg UInt8.toNat h3;simp at h4;omega
theorem xn {k:Nat} (hk:k<6):(∀s∈(ca k).prods.map Pr.name,nf s)/\∀s∈(ca k).nons,s.size=1:=by
 have h:k=0\/k=1\/k=2\/k=3\/k=4\/k=5:=by omega
 rcases h with rfl|rfl|rfl|rfl|rfl|rfl
 ·exact ⟨by show ∀s∈cv.prods.map Pr.name,nf s;decide,by show ∀s∈cv.nons,s.size=1;decide⟩
 ·exact ⟨by show ∀s∈bZ.prods.map Pr.name,nf s;decide,by show ∀s∈bZ.nons,s.size=1;decide⟩
 ·exact ⟨by show ∀s∈cX.prods.map Pr.name,nf s;decide,by show ∀s∈cX.nons,s.size=1;decide⟩
 ·exact ⟨by show ∀s∈jq.prods.map Pr.name,nf s;decide,by show ∀s∈jq.nons,s.size=1;decide⟩
 ·exact ⟨by show ∀s∈gB.prods.map Pr.name,nf s;decide,by show ∀s∈gB.nons,s.size=1;decide⟩
 ·exact ⟨by show ∀s∈gC.prods.map Pr.name,nf s;decide,by show ∀s∈gC.nons,s.size=1;decide⟩
theorem xo (x:Rw):(∀p∈(di x).prods,nf p.name)/\∀s∈(di x).nons,s.size=1:=by
 unfold di;split
 ·rename_i h;obtain ⟨h1,h2⟩:=xn (of_decide_eq_true h);exact ⟨λp hp=>h1 _ (List.mem_map_of_mem hp),h2⟩
 ·refine ⟨λp hp=> ?_,λs hs=> ?_⟩
  ·rw [TO.1 hp];decide
  ·have:∀s∈([⟨#[83]⟩,⟨#[80]⟩,⟨#[81]⟩]:List ByteArray),s.size=1:=by decide
   exact this s (Vv hs)
theorem zp (x:Rw):(∀p∈(dg x).prods,nf p.name)/\∀s∈(dg x).nons,s.size=1:=by
 obtain ⟨h1,h2⟩:=zn x;obtain ⟨a1,a2⟩:=xo x;refine ⟨λp hp=> ?_,by rw [h1];exact a2⟩;rcases h2 p hp with h|⟨⟨k,h⟩,_⟩
 ·exact a1 p h
 ·rw [h];exact CQ k
def bT (nn b:Nat):Sy:=if 200<b then ⟨true,((b % 9:Nat):Int)⟩ else ⟨false,((b % nn:Nat):Int)⟩
noncomputable def ni (g:Gr) (i:Nat) (y:Ln):Pr:={bC (fe i) ((y.left % g.nons.length:Nat):Int) ((y.right.take 3).map (bT g.nons.length)) with cond:=dia (iJ y.cond g.conds.length)}
noncomputable def FJ (g:Gr) (i:Nat) (y:Ln):Gr:={g with prods:=g.prods++[ni g i y]}
noncomputable def eI (g:Gr):Nat->List Ln->Gr
 |_,[]=>g
 |i,y::l=>eI (FJ g i y) (i+1) l
noncomputable def fQ (x:Rw) (more:List Ln):Gr:=eI (dg x) 0 (more.take 4)
theorem oa (y:Ln):∀(l:List Ln) (g:Gr) (i:Nat),eI g i (l++[y])=FJ (eI g i l) (i+l.length) y
 |[],g,i=>rfl
 |z::l,g,i=>by rw [Uz];unfold eI;rw [oa y l,T8];congr 1;omega
theorem CS {g:Gr} (i:Nat) (y:Ln) (hc:g.conds.length<=3) (hn:g.nons.length≠0):PrI g.conds.length g.nons.length (ni g i y):=by
 have hlen:((y.right.take 3).map (bT g.nons.length)).length<=3:=by rw [T1,T6];omega
 refine ⟨⟨_,jk (by omega),rfl⟩,⟨by show (0:Int)<=((y.left % g.nons.length:Nat):Int);omega,?_⟩,by show ((y.right.take 3).map _).length<=5;omega,λs hs=> ?_,⟨by show (-1:Int)<=0;decide,by show (0:Int)<=1;decide⟩,by show 0<=2;decide,⟨λy hy=>(by cases hy),iU _ _ _,iU _ _ _,λh=>(by cases h)⟩,?_,?_⟩
 ·show ((y.left % g.nons.length:Nat):Int)<_;have:=UF y.left (UO hn);omega
 ·obtain ⟨b,hb,rfl⟩:=T3.1 (show s∈(y.right.take 3).map (bT g.nons.length) from hs);unfold bT;split
  ·exact ⟨by show (0:Int)<=((b % 9:Nat):Int);omega,λ_=>by show ((b % 9:Nat):Int)<9;omega,λh=>(by cases h)⟩
  ·refine ⟨by show (0:Int)<=((b % g.nons.length:Nat):Int);omega,λh=>(by cases h),λ_=> ?_⟩;show ((b % g.nons.length:Nat):Int)<_;have:=UF b (UO hn);omega
 ·intro e;have h2:(2:Nat)=0:=congrArg ByteArray.size (show fe i=emp from e);cases h2
 ·show (fe i).size<=13;show 2<=13;decide
structure LG (g:Gr) (i:Nat):Prop where
 mg:MG g
 bd:Bd g (18+i) 10
 nm:∀p∈g.prods,∀k,i<=k->k<100->p.name≠fe k
theorem LG.made (x:Rw):LG (dg x) 0:=⟨(z7 x).1,(z7 x).2,λp hp k _ _=>ME ((zp x).1 p hp) k⟩
theorem LG.add {g:Gr} {i:Nat} (h:LG g i) (hi:i<50) (y:Ln):LG (FJ g i y) (i+1):=by
 refine ⟨h.mg.addP (λq hq=>h.nm q hq i (TT _) (by omega)) (λk=>zo i k) (CS i y h.bd.c h.bd.n0),h.bd.addP _,λp hp k hk hk2=> ?_⟩;rcases TR.1 (show p∈g.prods++[ni g i y] from hp) with hp|hp
 ·exact h.nm p hp k (by omega) hk2
 ·rw [TO.1 hp];intro e;have:=CR (by omega) hk2 (show fe i=fe k from e);omega
theorem LG.list:∀(l:List Ln) {g:Gr} {i:Nat},LG g i->i+l.length<50->LG (eI g i l) (i+l.length)
 |[],_,_,h,_=>h
 |y::l,g,i,h,hl=>by rw [T8] at hl ⊢;have:=LG.list l (h.add (by omega) y) (by omega);rwa [show i+1+l.length=i+(l.length+1) by omega] at this
theorem FK (x:Rw) (more:List Ln):LG (fQ x more) (min 4 more.length):=by have:=LG.list (more.take 4) (LG.made x) (by rw [T6];omega);rwa [T6,T7] at this
section
variable {g:Gr} {i:Nat}
theorem LG.ok (h:LG g i) (hi:i<=50):OkK g g.conds.length:=⟨h.mg.ok h.bd (by omega) (by decide),rfl,by have:=h.bd.c;omega⟩
theorem LG.rl (h:LG g i):∀x∈g.prods,x.right.length<=1000000:=λx hx=>by have:=(h.mg.prods x hx).rl;omega
end
theorem Qv:∃b z,SlT 50 63 2 b z:=Gs
theorem Qw:∃b z,SlT 33 55 13 b z:=⟨_,_,underlying33,NG,NK,rfl,by decide,by decide⟩
abbrev zq (nm:ByteArray) (left:Int) (r n:Sl) (d:Int):Γ:= #[.string nm,vi left,r.v,n.v,vi d,.bool false,vi 0,.slice none 0 0,.bool false,vi 0,vi 0,vi 0,vi 0]
theorem CT (l:List Sy) (y:Sy):cat (l.map Sy.arr)++y.arr.toList=cat ((l++[y]).map Sy.arr):=by rw [Ui,bS];simp [cat]
theorem zr {G:PH} (l:List Sy):de G l (l.map Sy.arr):=by
 induction l with
 |nil=>exact .nil
 |cons x l ih=>exact .cons rfl ih
section
variable {F:PH}
theorem zt {v:Γ} {x:Rw} {sm:Sl} {more:List Ln} (hx:wa F v x) (hm:RL F sm more):aj prog 13 #[.agg v,sm.v] F (LR F (fQ x more)):=by
 obtain ⟨_,_,TS⟩:=Qv;obtain ⟨_,_,TP⟩:=Qw;have em:=hm.len (by decide);have emc:=hm.cap;refine TD ?_;unfold Rf;have hvs:v.size=5:=by obtain ⟨⟨a,b,c,rfl,_⟩,_⟩:=hx;rfl
 refine (St.start F).newG λb2 G1 F1 l1 q2 _ h=>h.new λb4 F2 h=>⟨v,hvs,ac (h.le _ _ q2),?_⟩;refine h.run (P:=λr G'=>∃w,r=.agg w/\GV G' w (dg x)) (wg (hx.le l1)) λ_ G3 F3 hr l3 h=> ?_;obtain ⟨w,rfl,hg⟩:=hr;refine ⟨w,rfl,?_⟩;obtain ⟨c,n,t,s,p,l,f,rfl,hgs⟩:=hg;have l13:=aa l1 l3;refine h.new λb5 F4 h=> ?_;refine h.put0 (w':=(dg x).arr c n t s p l f) rfl rfl (by simp [al,Sl.v]) λF5 h=> ?_;have hmin:(more.take 4).length=min 4 more.length:=T6 ..
 refine bD (zY · sm b4 b5 _) (min 4 more.length) (λi F'=>∃(G':PH) (p':Sl),G3.le G'/\GS G' (eI (dg x) 0 ((more.take 4).take i)) c n t s p' l f/\
  ∃Bs,St G' F' ([pt b5 (.cells ((eI (dg x) 0 ((more.take 4).take i)).arr c n t s p' l f) 37),pt b4 (.cells zG 37)]++Bs)) ⟨G3,p,aq _,hgs,[],h⟩ ?_
 rintro i F6 N1 hi ⟨G4,p4,l4,hg4,Bs,h⟩ next;replace h:St G4 F6 [pt b5 (.cells ((eI (dg x) 0 ((more.take 4).take i)).arr c n t s p4 l f) 37),pt b4 (.cells zG 37)]:=h.pick id (λ_ _ _ _ e=>e) λi hi=>by rw [id,TZ hi]
 unfold zY;have lg:LG (eI (dg x) 0 ((more.take 4).take i)) i:=by have:=LG.list ((more.take 4).take i) (LG.made x) (by rw [T6,hmin];omega);rw [T6,hmin,T7] at this;rwa [show min i (min 4 more.length)=i by omega] at this
 have done:i=min 4 more.length->vS b4 b5 (LR F (fQ x more)) F6:=λe=>by
  have e2:eI (dg x) 0 ((more.take 4).take i)=fQ x more:=by unfold fQ;rw [TV (l:=more.take 4) (by omega)]
  rw [e2] at h hg4;unfold vS;refine ⟨_,rfl,ac (h.ptAt (i:=0) rfl),?_⟩;refine h.put1 (w':=(fQ x more).arr c n t s p4 l f) rfl rfl (by simp [al,Sl.v]) λF7 h=> ?_;exact ⟨_,rfl,ac (h.ptAt (i:=1) rfl),⟨_,rfl,c,n,t,s,p4,l,f,rfl,hg4.le h.le⟩,aa l13 (aa l4 h.le)⟩
 refine ⟨λhlt=>⟨λhi4=> ?_,λhi4=>done (by omega)⟩,λhlt=>done (by omega)⟩;have hil:i<more.length:=by omega
 have hi4':i<4:=by omega
 obtain ⟨y,hy⟩:∃y,more[i]? =some y:=⟨_,N4 hil⟩;have htake:(more.take 4).take (i+1)=(more.take 4).take i++[y]:=by rw [UX,UA (by omega),hy];rfl
 have hnext:eI (dg x) 0 ((more.take 4).take (i+1))=FJ (eI (dg x) 0 ((more.take 4).take i)) i y:=by rw [htake,oa,T7,T6,hmin,show min i (min 4 more.length)=i by omega]
 generalize eI (dg x) 0 ((more.take 4).take i)=g at*;have es:=hg4.s.len (by decide);have ec:=hg4.c.len (by decide);have ep:=hg4.p.len (by decide);have hc3:=lg.bd.c;have hn0:=lg.bd.n0;have hn3:=lg.bd.n;have hp22:=lg.bd.p;have l14:=aa l13 l4;refine ixc (hm.le l14) (by decide) (by omega) (by omega) λa31 c31 y' hy' hrow31 hc31=> ?_;rw [N5,hy] at hy';cases hy';obtain ⟨ry,rfl,hry,hyl,hyc,_,hyr⟩:=hc31;have ery:=hry.len;rw [T1,Uh] at ery;refine ⟨(y.left:Int),aS (aW h.le hrow31) rfl,s,ld (h.ptAt (i:=0) rfl) rfl,by omega,?_⟩;have el:Int.tmod (i64.wrap (y.left:Int)) (s.len:Int)=((y.left % g.nons.length:Nat):Int):=by rw [es,aP (by omega) (by omega),eM]
 have ecx:u8.wrap (i64.wrap ((97:Int)+(i:Int)))=((97+i:Nat):Int):=by rw [show (97:Int)+(i:Int)=((97+i:Nat):Int) by omega,aP (by omega) (by omega),wl (by omega)]
 rw [ecx,el];have sz2:(ByteArray.mk #[113]).size+(ByteArray.mk #[UInt8.ofNat (97+i)]).size<=9223372036854775807:=by show 1+1<=9223372036854775807;decide
 have fin:∀{G' F':PH} {b7:Nat},G4.le G'->St G' F' [pt b7 (.cells (zq (fe i) ((y.left % g.nons.length:Nat):Int) Sl.nil Sl.nil 0) 55),pt b5 (.cells (g.arr c n t s p4 l f) 37),pt b4 (.cells zG 37)]->
   vW N1 sm b4 b5 (i:Int) (some (Addr.mk b7 0 none)) (LR F (fQ x more)) F':=λ{G' F' b7} l5 h=>by
  unfold vW;refine ixc (hm.le (aa l14 l5)) (by decide) (by omega) (by omega) λa42 c42 y' hy' hrow42 hc42=> ?_;rw [N5,hy] at hy';cases hy';obtain ⟨ry,rfl,hry,hyl,hyc,_,hyr⟩:=hc42;have ery:=hry.len;rw [T1,Uh] at ery;refine ⟨ry,bQ (aW h.le hrow42) (i:=1) rfl,?_⟩;have h:=(h.nilOwn 63 2).swap;have hmr:(y.right.take 3).length=min 3 y.right.length:=T6 ..
  refine bD (zX N1 · sm b4 b5 (i:Int) (some (Addr.mk b7 0 none)) ry _) (min 3 y.right.length) (λk F'=>∃(G'':PH) (sr:Sl),G'.le G''/\sr.len=k/\
   ∃Bs,St G'' F' ([pt b7 (.cells (zq (fe i) ((y.left % g.nons.length:Nat):Int) sr Sl.nil 0) 55),own sr 63 2 (cat ((((y.right.take 3).map (bT g.nons.length)).take k).map Sy.arr)),pt b5 (.cells (g.arr c n t s p4 l f) 37),pt b4 (.cells zG 37)]++Bs)) ⟨G',Sl.nil,aq _,rfl,[],h⟩ ?_
  rintro k F7 N2 hk ⟨G5,sr,l6,hsr,Bs,h⟩ next2;replace h:St G5 F7 [pt b7 (.cells (zq (fe i) ((y.left % g.nons.length:Nat):Int) sr Sl.nil 0) 55),own sr 63 2 (cat ((((y.right.take 3).map (bT g.nons.length)).take k).map Sy.arr)),pt b5 (.cells (g.arr c n t s p4 l f) 37),pt b4 (.cells zG 37)]:=h.pick id (λ_ _ _ _ e=>e) λi hi=>by rw [id,TZ hi]
  have l46:=aa l5 l6;unfold zX;have done2:k=min 3 y.right.length->vU N1 sm b4 b5 (i:Int) (some (Addr.mk b7 0 none)) (LR F (fQ x more)) F7:=λe=>by
   rw [TV (by rw [T1,hmr];omega)] at h;obtain ⟨G6,l7,hd,h⟩:=h.swap.pinO;have hsy:RL G6 sr ((y.right.take 3).map (bT g.nons.length)):=⟨_,zr _,hd⟩;have l47:=aa l46 l7;have hg6:=hg4.le l47;unfold vU;refine ixc (hm.le (aa l14 l47)) (by decide) (by omega) (by omega) λa85 c85 y' hy' hrow85 hc85=> ?_;rw [N5,hy] at hy';cases hy';obtain ⟨ry',rfl,_⟩:=hc85;refine ⟨(y.cond:Int),bQ (aW h.le hrow85) (i:=2) rfl,c,ld (h.ptAt (i:=1) rfl) rfl,?_⟩;dsimp only;rw [ec];refine h.run (pP y.cond g.conds.length hyc (by omega) _) λ_ G7 F8 hr l8 h=> ?_;obtain ⟨⟨_,rfl,hw⟩,-⟩:=hr;obtain ⟨m,rfl,hmm⟩:=hw.out;refine ⟨_,rfl,ld (h.ptAt (i:=1) rfl) rfl,_,rfl,?_⟩;simp only [aC];refine h.putR0 (o:=3) (w':=(ni g i y).arr sr m Sl.nil) rfl (by simp [al,Sl.v]) (by show 3+2<=13;decide) rfl λF9 h=> ?_;have hP:Mem.rep G7 (ni g i y) ((ni g i y).arr sr m Sl.nil):=⟨sr,m,Sl.nil,rfl,hsy.le l8,hmm,RL.nil _⟩;refine ⟨p4,ld (h.ptAt (i:=1) rfl) rfl,_,rfl,ac (h.ptAt (i:=0) rfl),?_⟩;have hg7:=hg6.le l8;refine St.grow TP h hg7.p hP (by omega) rfl (λG' F' st=>ac (st.ptAt (i:=0) rfl)) λs' G8 F10 l9 hs' h=> ?_;have hg8:=hg7.le l9;refine h.set1 (w':=(FJ g i y).arr c n t s s' l f) (by show 5<9;decide) rfl λF11 h=> ?_;unfold vT;rw [aH (n:=4) hi4' (by decide)];have hlt':i<min 4 more.length:=by omega
   have hfin:=next F11 hlt';rw [hnext] at hfin;exact hfin ⟨G8,s',aa l4 (aa l47 (aa l8 l9)),⟨hg8.c,hg8.n,hg8.t,hg8.s,hs',hg8.l,hg8.f⟩,_,h.rot⟩
  refine ⟨λhkl=>⟨λhk3=> ?_,λhk3=>done2 (by omega)⟩,λhkl=>done2 (by omega)⟩;have hkr:k<y.right.length:=by omega
  obtain ⟨b,hb⟩:∃b,y.right[k]? =some b:=⟨_,N4 hkr⟩;have hb256:b<256:=hyr b (TU hb);have hsym:((y.right.take 3).map (bT g.nons.length))[k]? =some (bT g.nons.length b):=by rw [T0,UA (by omega),hb];rfl
  have hst:((y.right.take 3).map (bT g.nons.length)).take (k+1)=((y.right.take 3).map (bT g.nons.length)).take k++[bT g.nons.length b]:=by rw [UX,hsym];rfl
  have hat:∀{G' F':PH} {As:List (Ψ)},G5.le G'->St G' F' As->∃a,ry.base=some a/\0<=(k:Int)/\(k:Int)<(ry.len:Int)/\F'.cell (Addr.add a (Int.toNat (k:Int)*1))=some (vB b):=λl h=>
   (((hry.le l6).le l).le h.le).at6 (by rw [T0,hb];rfl)
  obtain ⟨a57,e1,e2,e3,e4⟩:=hat (aq _) h;refine ⟨a57,e1,e2,e3,(b:Int),e4,s,ld (h.ptAt (i:=2) rfl) rfl,by omega,?_⟩;have eb:Int.tmod (i64.wrap (b:Int)) (s.len:Int)=((b % g.nons.length:Nat):Int):=by rw [es,aP (by omega) (by omega),eM]
  have eb9:Int.tmod (i64.wrap (b:Int)) (9:Int)=((b % 9:Nat):Int):=by rw [aP (by omega) (by omega)];exact eM b 9
  rw [eb];refine h.new λb10 F8 h=> ?_;refine h.put0 (w':= #[.bool false,vi ((b % g.nons.length:Nat):Int)]) rfl rfl (by simp [al]) λF9 h=> ?_;obtain ⟨a67,f1,f2,f3,f4⟩:=hat (aq _) h;refine ⟨a67,f1,f2,f3,(b:Int),f4,?_⟩;have fin5:∀{F':PH} {sy:Sy},sy=bT g.nons.length b->St G5 F' [pt b10 (.cells sy.arr 63),pt b7 (.cells (zq (fe i) ((y.left % g.nons.length:Nat):Int) sr Sl.nil 0) 55),own sr 63 2 (cat ((((y.right.take 3).map (bT g.nons.length)).take k).map Sy.arr)),pt b5 (.cells (g.arr c n t s p4 l f) 37),pt b4 (.cells zG 37)]->
    vV N1 N2 sm b4 b5 (i:Int) (some (Addr.mk b7 0 none)) ry (k:Int) b10 (LR F (fQ x more)) F':=λ{F' sy} esy h=>by
   unfold vV;refine ⟨_,rfl,sr,by rw [aC];exact ld (h.ptAt (i:=1) rfl) rfl,sy.arr,rfl,ac (h.ptAt (i:=0) rfl),rfl,?_⟩;refine h.push2 TS (c:=sy.arr) rfl (by simp [al]) (by omega) λs' G6 F10 l7 h hl'=> ?_;rw [CT,esy,<- hst] at h;simp only [aC];refine h.set1 (w':=zq (fe i) ((y.left % g.nons.length:Nat):Int) s' Sl.nil 0) (by show 2<13;decide) rfl λF11 h=> ?_;rw [aH (n:=3) (by omega) (by decide)];exact next2 _ (by omega) ⟨G6,s',aa l6 l7,by omega,_,h.rot⟩
  refine ⟨λhgt=> ?_,λhle=> ?_⟩
  ·obtain ⟨a72,g1,g2,g3,g4⟩:=hat (aq _) h;refine ⟨a72,g1,g2,g3,(b:Int),g4,?_⟩;dsimp only;rw [eb9];refine h.put0 (w':= #[.bool true,vi ((b % 9:Nat):Int)]) rfl rfl (by simp [al]) λF10 h=> ?_;exact fin5 (sy:=⟨true,((b % 9:Nat):Int)⟩) (by unfold bT;rw [if_pos (by omega)]) h
  ·exact fin5 (sy:=⟨false,((b % g.nons.length:Nat):Int)⟩) (by unfold bT;rw [if_neg (by omega)]) h
 refine ⟨?_,?_⟩
 ·refine h.newG λb26 G5 F7 l5 q26 _ h=> ?_;refine ⟨_,gT (h.le _ _ q26),sz2,?_⟩;refine h.new λb7 F8 h=> ?_;refine h.put0 (w':=zq (fe i) ((y.left % g.nons.length:Nat):Int) Sl.nil Sl.nil 0) rfl rfl (by simp [al,Sl.v,Sl.nil]) λF9 h=> ?_;exact fin l5 h
 ·refine h.new λb7 F8 h=> ?_;refine h.newG λb26 G5 F7 l5 q26 _ h=> ?_;refine ⟨_,gT (h.le _ _ q26),sz2,?_⟩;refine h.put0 (w':=zq (fe i) ((y.left % g.nons.length:Nat):Int) Sl.nil Sl.nil 0) rfl rfl (by simp [al,Sl.v,Sl.nil]) λF9 h=> ?_;exact fin l5 h
end
theorem CU {F:PH} {a:Addr} {x:Tk} {p n:Sl} (h:F.row a (x.arr p n)):F.row (a.add 5) #[n.v,vi x.cond.2]:=GZ h rfl
section
variable {F:PH} {g:Gr} {k:Nat}
theorem xp {S:Int->Tr} {n:Nat} {i:Int} (h0:0<=i) (h1:i<n):(ff S n)[i.toNat]? =some (dia (S i)):=by unfold ff;rw [T0,Ur (by omega),Uv,Int.toNat_of_nonneg h0]
theorem FL (S:Int->Tr) (n:Nat):(ff S n).length=n:=by unfold ff;rw [T1,Uq]
end
section
end
section
end
section
end
section
end
section
variable {F G:PH} {g:Gr} {k:Nat} {c:Int}
theorem sk {v:Γ} (hg:GV F v g) (hk:OkK g k) (hf:(tre g.fam).ev (cfg c)=true) (c0:0<=c) (c1:c<18446744073709551616) {i:Nat} {x:Pr} (hx:g.prods[i]? =some x):
  aj prog 99 #[.agg v,.int .u64 c,vi i] F λr F'=>r=.bool ((aI g i).ev (cfg c))/\F.le F':=by
 obtain ⟨o1,o2,o3,o4⟩:=d6 hk.ok;obtain ⟨cs,n,t,s,p,l,f,rfl,hs⟩:=hg;have hi:i<g.prods.length:=(N6.1 hx).1;have ep:=hs.p.len (by decide);have et:=hs.t.len (by decide);have hxm:=TU hx;obtain ⟨hxc,hxd,_,hsy⟩:=hk.prod hxm;have hxl:=o4 x hxm;have hpe:=hk.prs_ev hx (cfg c);rw [hf,UU] at hpe;refine SY ?_;unfold Qd;refine (St.start F).newG λb3 G1 F1 l1 q3 _ h=> ?_;have hs1:=hs.le l1;refine ⟨p,ld (h.le _ _ q3) rfl,?_⟩;refine ixc hs1.p (by decide) (by omega) (by omega) λa12 c12 x' hx' hrow hc=> ?_;rw [N5,hx] at hx';cases hx';refine ⟨c12,Mem.len hc,aW h.le hrow,?_⟩;refine h.var (Mem.st hc) (λb7 G2 F2 l2 q7 h=> ?_) rfl (Mem.len hc);obtain ⟨r,n8,l8,rfl,hr,hn8,_⟩:=hc;have er:=hr.len (by decide);refine bD (zj · c b3 b7 _) x.right.length (λj F'=>∃G':PH,G2.le G'/\St G' F' []/\((x.right.take j).all λs=> !s.t || (iQ g s.i).ev (cfg c))=true) ⟨G2,aq _,h,by rw [UM];rfl⟩ ?_;rintro j F3 N hj ⟨G3,l3,h,hall⟩ next;have l13:=aa l2 l3;have q73:=l3 _ _ q7;unfold zj;refine ⟨r,ld (h.le _ _ q73) rfl,λhlt=> ?_,λhge=> ?_⟩
 ·have hlt:j<x.right.length:=by omega
  refine ⟨r,ld (h.le _ _ q73) rfl,?_⟩;refine ixc (hr.le l13) (by decide) (by omega) (by omega) λa24 c24 sy hsj hrow24 hc24=> ?_;rw [N5] at hsj;obtain rfl:c24=sy.arr:=hc24;obtain ⟨s0,_,s2⟩:=hsy sy (TU hsj);have et2:=dT hsj;refine ⟨sy.t,aS (aW h.le hrow24) rfl,λht=> ?_,λht=> ?_⟩
  ·obtain ⟨tk,htk,_⟩:=s2 ht;have hti:sy.i.toNat<g.toks.length:=(N6.1 htk).1;obtain ⟨tx,td⟩:=hk.tok (TU htk);have ed:iQ g sy.i=tre tk.cond:=by unfold iQ;rw [htk]
   have q33:=l13 _ _ q3;refine ⟨t,ld (h.le _ _ q33) rfl,r,ld (h.le _ _ q73) rfl,?_⟩;refine ixc (hr.le l13) (by decide) (by omega) (by omega) λa33 c33 sy' hsj' hrow33 hc33=> ?_;rw [N5,hsj] at hsj';cases hsj';obtain rfl:c33=sy.arr:=hc33;refine ⟨sy.i,bQ (aW h.le hrow33) (i:=1) rfl,?_⟩;refine ixc (hs1.t.le l13) (by decide) s0 (by omega) λa36 c36 tk' htk' hrow36 hc36=> ?_;rw [htk] at htk';cases htk';obtain ⟨pp,nn,rfl,_,hnn⟩:=hc36;have hdt:DV G3 #[nn.v,vi tk.cond.2] (dia (iQ g sy.i)):=by rw [ed,<- td];exact DV.mk hnn
   have sm:=(hk.tkd sy.i).small hk.le;refine ⟨#[nn.v,vi tk.cond.2],rfl,aW h.le (CU hrow36),?_⟩;refine h.runv (BJ hdt sm.1 sm.2 c0 c1) λG4 F4 l4 h=>⟨_,rfl,bQ (aW (aa l4 h.le) hrow33) (i:=1) rfl,ld (h.le _ _ (l4 _ _ q73)) rfl,ld (h.le _ _ (l4 _ _ q33)) rfl,aS (aW (aa l4 h.le) hrow24) rfl,ld (h.le _ _ (l4 _ _ q73)) rfl,λhn=> ?_,λhn=> ?_⟩
   ·refine ⟨?_,aa l1 (aa l13 (aa l4 h.le))⟩;rw [hpe];have:(x.right.all λs=> !s.t || (iQ g s.i).ev (cfg c))=false:=by rw [List.all_eq_false];refine ⟨sy,TU hsj,?_⟩;rw [ht];simpa using hn
    rw [this,Bool.and_false]
   ·unfold vk;rw [aH hlt (by omega)];refine next _ hlt ⟨G4,aa l3 l4,h,?_⟩;rw [et2,List.all_append,hall,U9,ht];simpa using hn
  ·unfold vk;rw [aH hlt (by omega)];refine next _ hlt ⟨G3,l3,h,?_⟩;rw [et2,List.all_append,hall,U9,ht];rfl
 ·have e:j=x.right.length:=by omega
  subst e;rw [T2] at hall;unfold FD;have hd:DV G3 #[n8.v,vi x.cond.2] (dia (tre x.cond)):=by rw [<- hxd];exact DV.mk (hn8.le l13)
  have sm:=hxc.small hk.le;refine ⟨#[n8.v,vi x.cond.2],rfl,kq (h.le _ _ q73) rfl,?_⟩;refine h.runv (BJ hd sm.1 sm.2 c0 c1) λG4 F4 l4 h=>⟨_,rfl,?_,aa l1 (aa l13 (aa l4 h.le))⟩;rw [hpe,hall,Bool.and_true]
set_option maxHeartbeats 2000000 in
theorem xq {v:Γ} {l:Sl} {bs:Δ} {n:Int} (hg:GV F v g) (hk:OkK g k) (hf:(tre g.fam).ev (cfg c)=true) (c0:0<=c) (c1:c<18446744073709551616) (hl:RdS F l 1 (bs.map vB)) (hb:∀b∈bs,b<256):
  aj prog 40 #[.agg v,.int .u64 c,vi n,l.v] F λr F'=>(∃(t u:Sl) (e:Bool),r=.tuple #[Sl.v t,Sl.v u,.bool e]/\
   (e=true->∃(ts:Φ) (us:Δ),RdS F' t 1 (ts.map vi)/\RdS F' u 1 (us.map λi:Nat=>vi i)/\ts.length<=1000/\us.length<=40/\Yl g.prods (aI g) (cfg c) [⟨false,n⟩] ts us))/\F.le F':=by
 obtain ⟨_,_,TS⟩:=Gs;have TI:=IT;obtain ⟨o1,o2,o3,o4⟩:=d6 hk.ok;have hg0:=hg;obtain ⟨cs,n',t,s,p,lv,f,rfl,hs⟩:=hg;have ep:=hs.p.len (by decide);have el:=hl.len;rw [T1,Uh] at el;refine TF ?_;unfold Rh;refine (St.start F).newG λb4 G1 F1 l1 q4 _ h=>⟨rfl,?_⟩;refine h.newG λb21 G2 F2 l2 q21 _ h=> ?_;have l12:=aa l1 l2;have hr0:RL G2 (Sl.mk (some (Addr.mk b21 0 none)) 1 1) ([⟨false,n⟩]:List Sy):=xD q21 rfl;have h:=(h.nilOwn 3 1);have h:=(h.nilOwn 3 1)
 refine ⟨λm r tk us i F'=>∃(j:Nat) (G':PH) (rl:List Sy) (ts:Φ) (ul:Δ) (Bs:List (Ψ)),i=j/\j<=40/\j<=bs.length/\m=(41 - j)*1000+rl.length/\G2.le G'/\RL G' r rl/\rl.length+ts.length<=1+16*j/\tk.len=ts.length/\us.len=ul.length/\ul.length=j/\
   (∀w' u',Yl g.prods (aI g) (cfg c) rl w' u'->Yl g.prods (aI g) (cfg c) [⟨false,n⟩] (ts++w') (ul++u'))/\
   St G' F' ([own tk 3 1 (ts.map vi),own us 3 1 (ul.map λi:Nat=>vi i)]++Bs),41*1000+1,⟨0,G2,[⟨false,n⟩],[],[],[],rfl,VD _,VD _,rfl,aq _,hr0,by simp,rfl,rfl,rfl,λ_ _ h=>h,h⟩,?_⟩
 rintro _ r tk us _ F3 ⟨j,G3,rl,ts,ul,Bs,rfl,hj,hjb,rfl,l3,hr,hsum,htk,hus,hul,hY,h⟩;replace h:St G3 F3 [own tk 3 1 (ts.map vi),own us 3 1 (ul.map λi:Nat=>vi i)]:=h.pick id (λ_ _ _ _ e=>e) λi hi=>by rw [id,TZ hi]
 have l13:=aa l2 l3;have l03:=aa l12 l3;have er:=hr.len (by decide);unfold GJ;refine ⟨λhpos=> ?_,λhz=> ?_⟩
 ·cases rl with
  |nil=>exact absurd hpos (by rw [er];simp)
  |cons s0 rl=>
  rw [T8] at er hsum;refine ixc hr (by decide) (by omega) (by omega) λa26 c26 sy hsj hrow26 hc26=> ?_;rw [show Int.toNat 0=0 from rfl] at hsj hrow26;cases hsj;obtain rfl:c26=s0.arr:=hc26;refine ⟨s0.arr,rfl,aW h.le hrow26,?_⟩;refine h.var (by simp [al]) (λb15 G4 F4 l4 q15 h=> ?_) rfl rfl;have hcap:=hr.cap;refine ⟨by omega,by omega,?_⟩;have hcut:RL G4 (Sl.cut r 2 1 r.len r.cap) rl:=(hr.le l4).cutD (n:=2) rfl (by decide) (k:=1) (by omega);have ecut:=hcut.len (by decide);refine ⟨s0.t,ld (h.le _ _ q15) rfl,λht=> ?_,λht=> ?_⟩
  ·refine ⟨s0.i,ld (h.le _ _ q15) rfl,?_⟩;refine h.push0 TI (c:= #[vi s0.i]) rfl (by simp [al]) (by omega) λtk' G5 F5 l5 h htk'=> ?_;refine ⟨(41 - j)*1000+rl.length,by rw [T8];omega,j,G5,rl,ts++[s0.i],ul,[],rfl,hj,hjb,rfl,aa l3 (aa l4 l5),hcut.le l5,by rw [TQ,TY];omega,by rw [TQ,TY];omega,hus,hul,λw' u' hy=> ?_,?_⟩
   ·have:=hY (s0.i::w') u' (.tok s0 rl w' u' ht hy);rw [Uf];exact this
   ·rw [Ui];exact h
  ·have h:=(h.nilOwn 3 1);have l34:=aa l13 l4;have l04:=aa l03 l4;have q44:=l34 _ _ q4
   refine ⟨λm2 o q F'=>∃(pn:Nat) (G':PH) (ol:Δ),q=pn/\pn<=g.prods.length/\m2=g.prods.length - pn/\G4.le G'/\o.len=ol.length/\ol.length<=pn/\(∀i∈ol,∃x,g.prods[i]? =some x/\x.left=s0.i/\(aI g i).ev (cfg c)=true)/\
    St G' F' [own o 3 1 (ol.map λi:Nat=>vi i),own tk 3 1 (ts.map vi),own us 3 1 (ul.map λi:Nat=>vi i)],g.prods.length,⟨0,G4,[],rfl,VD _,rfl,aq _,rfl,TT _,λ_ h=>(by cases h),h⟩,?_⟩
   rintro _ o _ F5 ⟨pn,G5,ol,rfl,hpn,rfl,l5,ho,hol,hO,h⟩;have l45:=aa l04 l5;have q45:=l5 _ _ q44;have q155:=l5 _ _ q15;unfold GI;refine ⟨p,ld (h.le _ _ q45) rfl,λhlt=> ?_,λhge=> ?_⟩
   ·have hlt:pn<g.prods.length:=by omega
    refine ⟨p,ld (h.le _ _ q45) rfl,?_⟩;refine ixc (hs.p.le l45) (by decide) (by omega) (by omega) λa47 c47 x hx hrow47 hc47=> ?_;rw [N5] at hx;obtain ⟨rx,n8,l8,rfl,_⟩:=hc47;have fin:∀{G' F':PH} {o':Sl} {ol':Δ},G5.le G'->o'.len=ol'.length->ol'.length<=pn+1->(∀i∈ol',∃x,g.prods[i]? =some x/\x.left=s0.i/\(aI g i).ev (cfg c)=true)->
      St G' F' [own o' 3 1 (ol'.map λi:Nat=>vi i),own tk 3 1 (ts.map vi),own us 3 1 (ul.map λi:Nat=>vi i)]->
      ∃m',m'<g.prods.length - pn/\∃(pn':Nat) (G':PH) (ol:Δ),(i64.wrap ((pn:Int)+1))=pn'/\pn'<=g.prods.length/\m'=g.prods.length - pn'/\G4.le G'/\o'.len=ol.length/\ol.length<=pn'/\(∀i∈ol,∃x,g.prods[i]? =some x/\x.left=s0.i/\(aI g i).ev (cfg c)=true)/\
    St G' F' [own o' 3 1 (ol.map λi:Nat=>vi i),own tk 3 1 (ts.map vi),own us 3 1 (ul.map λi:Nat=>vi i)]:=λ{G' F' o' ol'} l6 h1 h2 h3 h=>by rw [aH hlt (by omega)];exact ⟨g.prods.length - (pn+1),by omega,pn+1,G',ol',rfl,by omega,rfl,aa l5 l6,h1,h2,h3,h⟩
    refine ⟨x.left,bQ (aW h.le hrow47) (i:=1) rfl,s0.i,ld (h.le _ _ q155) rfl,λhl'=> ?_,λhl'=> ?_⟩
    ·refine ⟨_,rfl,ac (h.le _ _ q45),?_⟩;refine h.runv (sk (hg0.le l45) hk hf c0 c1 hx) λG6 F6 l6 h=>⟨_,rfl,ld (h.le _ _ (l6 _ _ q155)) rfl,bQ (aW (aa l6 h.le) hrow47) (i:=1) rfl,ld (h.le _ _ (l6 _ _ q45)) rfl,?_⟩;unfold vX;refine ⟨λhp=> ?_,λhp=> ?_⟩
     ·refine h.push0 TI (c:= #[vi pn]) rfl (by simp [al]) (by omega) λo' G7 F7 l7 h ho'=> ?_;unfold rT;refine fin (ol':=ol++[pn]) (aa l6 l7) (by rw [TQ,TY];omega) (by rw [TQ,TY];omega) (λi hi=> ?_) (by rw [Ui];exact h);rcases TR.1 hi with hi|hi
      ·exact hO i hi
      ·rw [TO.1 hi];exact ⟨x,hx,hl',hp⟩
     ·unfold rT;exact fin l6 ho (by omega) hO h
    ·unfold vX;refine ⟨λhc=>(by cases hc),λ_=> ?_⟩;unfold rT;exact fin (aq _) ho (by omega) hO h
   ·unfold GH;have lF:=aa l45 h.le
    have hnone:(λ(r:Value) (F':PH)=>(∃(t u:Sl) (e:Bool),r=.tuple #[Sl.v t,Sl.v u,.bool e]/\
     (e=true->∃(ts:Φ) (us:Δ),RdS F' t 1 (ts.map vi)/\RdS F' u 1 (us.map λi:Nat=>vi i)/\ts.length<=1000/\us.length<=40/\Yl g.prods (aI g) (cfg c) [⟨false,n⟩] ts us))/\F.le F') (Value.tuple #[Sl.v Sl.nil,Sl.v Sl.nil,.bool false]) F5:=⟨⟨Sl.nil,Sl.nil,false,rfl,λh=>(by cases h)⟩,lF⟩
    refine ⟨λ_=>hnone,λho0=>⟨λ_=>hnone,λhjl=>⟨λ_=>hnone,λhj40=>⟨λ_=>hnone,λh60=> ?_⟩⟩⟩⟩;have hjl:j<bs.length:=by omega
    have hj40:j<40:=by omega
    obtain ⟨b,hbj⟩:∃b,bs[j]? =some b:=⟨_,N4 hjl⟩;have hb256:=hb b (TU hbj);obtain ⟨a84,e1,e2,e3,e4⟩:=(hl.le (aa l45 h.le)).at6 (i:=j) (v:=vB b) (by rw [T0,hbj];rfl);refine ⟨a84,e1,e2,e3,(b:Int),e4,ho0,?_⟩;have eb:Int.tmod (i64.wrap (b:Int)) (o.len:Int)=((b % ol.length:Nat):Int):=by rw [ho,aP (by omega) (by omega),eM]
    rw [eb];have hop:0<ol.length:=by omega
    have hml:=UF b hop;generalize b % ol.length=q at*;obtain ⟨pp,hpp⟩:∃pp,ol[q]? =some pp:=⟨_,N4 hml⟩;obtain ⟨x,hx,hxl,hxp⟩:=hO pp (TU hpp);obtain ⟨a90,d1,d2,d3,d4⟩:=(St.own_rd (h.ownAt (i:=0) rfl).1).at6 (i:=q) (v:=vi pp) (by rw [T0,hpp];rfl);refine ⟨a90,d1,d2,d3,(pp:Int),d4,?_⟩;have h:=h.tail;refine h.push1 TI (c:= #[vi pp]) rfl (by simp [al]) (by omega) λus' G6 F6 l6 h hus'=> ?_;refine h.new λb98 F7 h=> ?_;have h:=h.imp (A':=own (Sl.mk (some (Addr.mk b98 0 none)) 0 0) 63 2 []) 0 rfl λH _ hH=>gx hH;have q46:=l6 _ _ q45;have l46:=aa l45 l6;have hxb:=(N6.1 hx).1;refine ⟨p,ld (h.le _ _ q46) rfl,?_⟩;refine ixc (hs.p.le l46) (by decide) (by omega) (by omega) λa102 c102 x' hx' hrow102 hc102=> ?_;rw [N5,hx] at hx';cases hx';obtain ⟨rx,n8,l8,rfl,hrx,_⟩:=hc102;refine ⟨rx,bQ (aW h.le hrow102) (i:=2) rfl,?_⟩;have erx:=hrx.len (by decide);have hx16:=o4 x (TU hx);have hcut6:=hcut.le (aa l5 l6);obtain ⟨v1,r1,dd1⟩:=id hrx;obtain ⟨v2,r2,dd2⟩:=id hcut6;refine h.app0 TS (dd1.le h.le) r1.st (by show 0+rx.len<=_;omega) λs1 F8 h hl1=> ?_;rw [Ul] at h;have e1:s1.len=rx.len:=by rw [hl1];show 0+rx.len=_;omega
    refine h.app0 TS (dd2.le h.le) r2.st (by omega) λs2 F9 h hl2=> ?_;obtain ⟨G7,l7,hd7,h⟩:=h.pinO;have hrl:RL G7 s2 (x.right++rl):=⟨v1++v2,(r1.append r2).le l7,by rw [bS];exact hd7⟩;refine ⟨(41 - (j+1))*1000+(x.right++rl).length,by rw [TQ,T8];omega,j+1,G7,x.right++rl,ts,ul++[pp],[],?_,by omega,by omega,rfl,aa l3 (aa l4 (aa l5 (aa l6 l7))),hrl,by rw [TQ];omega,htk,by rw [TQ,TY];omega,by rw [TQ,TY];omega,λw' u' hy=> ?_,?_⟩
    ·rw [aP (by omega) (by omega)];rfl
    ·have:=hY w' (pp::u') (.non s0 rl w' u' pp x ht hx hxl hxp hy);rw [Uf];exact this
    ·rw [Ui];exact h
 ·have e:rl=[]:=T4 (by omega);subst e;unfold GG;have hY:=hY [] [] .nil;rw [Us,Us] at hY;rw [List.length_nil] at hsum;refine ⟨⟨tk,us,true,rfl,λ_=>⟨ts,ul,St.own_rd (h.ownAt (i:=0) rfl).1,St.own_rd (h.ownAt (i:=1) rfl).1,by omega,by omega,hY⟩⟩,aa l03 h.le⟩
end
end Go.Proofs.YtcemhghkipgdiaaGreatDoor
