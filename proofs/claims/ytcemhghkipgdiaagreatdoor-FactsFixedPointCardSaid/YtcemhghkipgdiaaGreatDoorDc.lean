/-
  FactsFixedPoint.
-/
import Derived.Test.YtcemhghkipgdiaaGreatDoorDb
namespace Go.Proofs.YtcemhghkipgdiaaGreatDoor
open Go Go.Proofs.Tryz Tr
set_option maxRecDepth 10000
noncomputable def jT (l:List Tr):Tr:=l.foldl (ap2 oOr) (leaf false)
theorem Hi (l:List Tr) (t:Tr):jT (l++[t])=ap2 oOr (jT l) t:=by unfold jT;rw [List.foldl_append];rfl
theorem wz {k:Nat}:∀(l:List Tr) {d:Tr},Sx k d->(∀t∈l,Sx k t)->Sx k (l.foldl (ap2 oOr) d)/\∀c,(l.foldl (ap2 oOr) d).ev c=true↔d.ev c=true\/∃t∈l,t.ev c=true
 |[],d,hd,_=>⟨hd,λc=>⟨.inl,λh=>h.resolve_right λ⟨_,h,_⟩=>(by cases h)⟩⟩
 |t::l,d,hd,h=>by
  have ht:=h t (by simp);obtain ⟨h1,h2⟩:=wz l (hd.ap2 (o:=oOr) ht) λu hu=>h u (SN _ hu);rw [List.foldl_cons];refine ⟨h1,λc=>(h2 c).trans ?_⟩;rw [(aZ hd.1 ht.1).2];show (d.ev c || t.ev c)=true\/_↔_;rw [TA,or_assoc];refine or_congr_right ⟨λh=> ?_,λ⟨u,hu,hc⟩=> ?_⟩
  ·rcases h with h|⟨u,hu,hc⟩
   ·exact ⟨t,by simp,h⟩
   ·exact ⟨u,SN _ hu,hc⟩
  ·rcases Sw.1 hu with rfl|hu
   ·exact .inl hc
   ·exact .inr ⟨u,hu,hc⟩
theorem qT {k:Nat} {l:List Tr} (h:∀t∈l,Sx k t):Sx k (jT l)/\∀c,(jT l).ev c=true↔∃t∈l,t.ev c=true:=by obtain ⟨h1,h2⟩:=wz l (Sx.leaf k false) h;exact ⟨h1,λc=>(h2 c).trans ⟨λh=>h.resolve_left λh=>(by cases h),.inr⟩⟩
theorem wA {k:Nat} {F:PH} {sl:Sl} {ts:List Tr} (hk:k<=6) (ht:∀t∈ts,Sx k t) (hl:ts.length<=1000000) (hs:RL F sl (ts.map dia)):aj prog 30 #[sl.v] F λr F'=>iw (dia (jT ts)) r F'/\F.le F':=by
 have es:=hs.len (by decide);rw [SM] at es;refine RM ?_;unfold Px;refine (St.start F).new λb2 F1 h=> ?_;refine (h.call (bX false)).mono ?_;rintro _ F2 ⟨G2,⟨w,rfl,hw,l2⟩,h⟩;refine ⟨w,rfl,?_⟩;refine h.new λb3 F3 h=> ?_;refine h.put0 (w':=w) hw.size rfl hw.st λF4 h=> ?_;refine bu (yG · sl b2 b3 _) ts.length (λi F'=>∃(G':PH) (u:Γ),G2.le G'/\DV G' u (dia (jT (ts.take i)))/\∃Bs,St G' F' ([pt b3 (.cells u 31),pt b2 (.cells zD 31)]++Bs)) ⟨G2,w,aq _,hw,[],h⟩ ?_;rintro i F5 N hi ⟨G3,u,l3,hu,Bs,h⟩ next;replace h:St G3 F5 [pt b3 (.cells u 31),pt b2 (.cells zD 31)]:=h.pick id (λ_ _ _ _ e=>e) λi hi=>by rw [id,SJ hi]
 have l23:=aa l2 l3;unfold yG;have hpre:∀t∈ts.take i,Sx k t:=λt h=>ht t (T3 h);refine ⟨λhlt=> ?_,λhge=> ?_⟩
 ·have hlt:i<ts.length:=by omega
  obtain ⟨t,hti⟩:∃t,ts[i]? =some t:=⟨_,N5 hlt⟩;have hsx:=ht t (SE hti);refine ⟨u,hu.size,ac (h.ptAt (i:=0) rfl),?_⟩;refine ixc (hs.le l23) (by decide) (by omega) (by omega) λa18 c18 d hd hrow hc=>⟨c18,Mem.len hc,aT h.le hrow,?_⟩;rw [N4,SQ,hti] at hd;cases hd;have hO:∀{G':PH},G3.le G'->aj prog 28 #[.agg u,.agg c18] G' λr G''=>(∃y,r=.tuple #[.agg y,vi 0]/\DV G'' y (dia (jT (ts.take (i+1)))))/\G'.le G'':=λl=>by rw [cS hti,Hi];exact (i7 hk (qT hpre).1 hsx (hu.le l) (show DV _ c18 _ from hc.le l)).mono λr F' ⟨x,a,b,c⟩=>⟨⟨x,a,b⟩,c⟩
  have fin:∀{G' F':PH} {y:Γ} {b5:Nat},G3.le G'->DV G' y (dia (jT (ts.take (i+1))))->St G' F' [pt b5 (.cells zD 31),pt b3 (.cells u 31),pt b2 (.cells zD 31)]->
    au F' (Addr.mk b5 0 none) 2 y λF2=>uS N sl b2 b3 (i:Int) (some (Addr.mk b5 0 none)) (λr F'=>iw (dia (jT ts)) r F'/\F.le F') F2:=λ{G' F' y b5} l hy h=>by
   refine h.put0 hy.size rfl hy.st λF6 h=> ?_;unfold uS;refine ⟨_,rfl,y,hy.size,ac (h.ptAt (i:=0) rfl),?_⟩;refine h.put1 (w':=y) hy.size hu.size hy.st λF7 h=> ?_;rw [aE hlt (by omega)];exact next _ hlt ⟨G',y,aa l3 l,hy,_,h.rot⟩
  refine ⟨?_,?_⟩
  ·refine h.run (hO (aq _)) λ_ G4 F6 hr l4 h=> ?_;obtain ⟨y,rfl,hy⟩:=hr;exact ⟨_,_,rfl,h.new λb5 F7 h=>fin l4 hy h⟩
  ·refine h.new λb5 F6 h=> ?_;refine h.run (hO (aq _)) λ_ G4 F7 hr l4 h=> ?_;obtain ⟨y,rfl,hy⟩:=hr;exact ⟨_,_,rfl,fin l4 hy h⟩
 ·have e:i=ts.length:=by omega
  subst e;rw [SK] at hu;unfold EM;refine ⟨u,hu.size,ac (h.ptAt (i:=0) rfl),?_⟩;refine h.put1 (w':=u) hu.size rfl hu.st λF6 h=> ?_;exact ⟨u,hu.size,ac (h.ptAt (i:=1) rfl),⟨u,rfl,hu.le h.le⟩,aa l23 h.le⟩
noncomputable def uI (f:Nat->Pr->Tr) (n:Int):Nat->List Pr->Tr->Tr
 |_,[],d=>d
 |i,x::l,d=>uI f n (i+1) l (if x.left=n then ap2 oOr d (f i x) else d)
theorem j8 {k:Nat} {f:Nat->Pr->Tr} {n:Int} (hf:∀i x,Sx k (f i x)):∀(l:List Pr) (i:Nat) {d:Tr},Sx k d->Sx k (uI f n i l d)/\∀c,(uI f n i l d).ev c=true↔d.ev c=true\/∃(m:Nat) (x:Pr),l[m]? =some x/\x.left=n/\(f (i+m) x).ev c=true
 |[],i,d,hd=>⟨hd,λc=>⟨.inl,λh=>h.resolve_right λ⟨m,x,h,_⟩=>(by simp at h)⟩⟩
 |x::l,i,d,hd=>by
  have shift:∀c,(∃(m:Nat) (y:Pr),(x::l)[m]? =some y/\y.left=n/\(f (i+m) y).ev c=true)↔(x.left=n/\(f i x).ev c=true)\/∃(m:Nat) (y:Pr),l[m]? =some y/\y.left=n/\(f (i+1+m) y).ev c=true:=λc=>by
   constructor
   ·rintro ⟨m,y,h1,h2,h3⟩;cases m with
    |zero=>cases h1;exact .inl ⟨h2,h3⟩
    |succ m=>exact .inr ⟨m,y,by simpa using h1,h2,by rw [show i+1+m=i+(m+1) by omega];exact h3⟩
   ·rintro (⟨h2,h3⟩|⟨m,y,h1,h2,h3⟩)
    ·exact ⟨0,x,rfl,h2,h3⟩
    ·exact ⟨m+1,y,by simpa using h1,h2,by rw [show i+(m+1)=i+1+m by omega];exact h3⟩
  unfold uI;by_cases e:x.left=n
  ·rw [if_pos e];obtain ⟨h1,h2⟩:=j8 hf l (i+1) (hd.ap2 (o:=oOr) (hf i x));refine ⟨h1,λc=>(h2 c).trans ?_⟩;rw [shift,(aZ hd.1 (hf i x).1).2];show (d.ev c || (f i x).ev c)=true\/_↔_;rw [TA,or_assoc];exact or_congr_right (or_congr_left ⟨λh=>⟨e,h⟩,λh=>h.2⟩)
  ·rw [if_neg e];obtain ⟨h1,h2⟩:=j8 hf l (i+1) hd;refine ⟨h1,λc=>(h2 c).trans ?_⟩;rw [shift];exact or_congr_right ⟨.inr,λh=>h.resolve_left λh=>e h.1⟩
theorem AN {k:Nat} {l:List Pr} {P:Nat->Tr} {st:Bool} {S:Int->Tr} (hP:∀i,Sx k (P i)) (h:dz k l P st S) (n:Int):uI (λi x=>fw S st (P i) x.right) n 0 l (leaf false)=S n:=by
 obtain ⟨h1,h2⟩:=j8 (f:=λi x=>fw S st (P i) x.right) (n:=n) (λi x=>(cQ h.sx x.right (hP i)).1) l 0 (Sx.leaf k false);refine dC h1.1 (h.sx n).1 λc=>SG.2 ?_;rw [h2,h.iff,Der.inv];constructor
 ·rintro (h'|⟨m,x,e1,e2,e3⟩)
  ·cases h'
  ·rw [SP,(cQ h.sx x.right (hP m)).2] at e3;exact ⟨m,x,e1,e2,e3.1,λs hs=>(e3.2 s hs).1,λs hs hst=>(h.iff _ _).1 ((e3.2 s hs).2 hst)⟩
 ·rintro ⟨m,x,e1,e2,e3,e4,e5⟩;refine .inr ⟨m,x,e1,e2,?_⟩;rw [SP,(cQ h.sx x.right (hP m)).2];exact ⟨e3,λs hs=>⟨e4 s hs,λhst=>(h.iff _ _).2 (e5 s hs hst)⟩⟩
theorem EA (S:Int×Int->Tr) (nt n:Nat):nS S nt n=((List.range nt).map λt:Nat=>S ((n:Int),(t:Int))).map dia:=by unfold nS;rw [List.map_map];rfl
theorem B1 {k:Nat} {g:Gr} (hk:OkK g k) {N D:Int->Tr} {S:Int×Int->Tr} (hN:dz k g.prods (aF g) true N) (hD:dz k g.prods (aF g) false D) (hS:tn k g.prods (aF g) S) (n:Nat):
  ap2 oOr (jT ((List.range g.toks.length).map λt:Nat=>S ((n:Int),(t:Int)))) (N n)=D n:=by
 have hsx:∀t∈(List.range g.toks.length).map λt:Nat=>S ((n:Int),(t:Int)),Sx k t:=λt ht=>by obtain ⟨i,_,rfl⟩:=SL.1 ht;exact hS.sx _
 obtain ⟨h1,h2⟩:=qT hsx;refine dC (aZ h1.1 (hN.sx n).1).1 (hD.sx n).1 λc=>SG.2 ?_;rw [(aZ h1.1 (hN.sx n).1).2,hD.iff,y6];show (Tr.ev _ c || (N n).ev c)=true↔_;rw [TA,h2,hN.iff,or_comm];refine or_congr_right ⟨?_,?_⟩
 ·rintro ⟨t,ht,hc⟩;obtain ⟨i,_,rfl⟩:=SL.1 ht;exact ⟨i,(hS.iff _ _).1 hc⟩
 ·rintro ⟨t,hf⟩;obtain ⟨x,hx,s,hs,hst,rfl⟩:=hf.tok_mem;obtain ⟨h0,_,h4⟩:=(hk.prod hx).2.2.2 s hs;obtain ⟨tk,htk,_⟩:=h4 hst;have hlt:=(N6.1 htk).1;refine ⟨_,SL.2 ⟨s.i.toNat,Tp.2 hlt,rfl⟩,?_⟩;rw [hS.iff];show Fst _ _ _ _ ((s.i.toNat:Nat):Int);rw [Int.toNat_of_nonneg h0];exact hf
section
variable {F:PH}
theorem nR {v:Γ} {x:Rw} {sm:Sl} {more:List Ln} (hT:Tab F) (hx:xd F v x) (hm:RL F sm more):aj prog 5 #[.agg v,sm.v] F (RT6 F):=by
 refine cQ5 ?_;unfold bQ5;have hvs:v.size=5:=by obtain ⟨⟨a,b,c,rfl,_⟩,_⟩:=hx;rfl
 refine (St.start F).newG λb2 G1 F1 l1 q2 _ h=> ?_;refine h.runv (Hk (hT.le l1)) λG2 F2 l2 h=>⟨_,rfl,v,hvs,ac (h.le _ _ (l2 _ _ q2)),?_⟩;have l02:=aa l1 l2;refine h.run (P:=λr G'=>∃w,r=.agg w/\GV G' w (fO x more)) (yu (hx.le l02) (hm.le l02)) λ_ G3 F3 hr l3 h=> ?_;obtain ⟨w,rfl,hg⟩:=hr;have l03:=aa l02 l3;refine ⟨w,rfl,?_⟩;have lg:=EF x more;have hok:=lg.ok (by omega);have hz:=lg.mg.sz lg.bd;have hrl:=lg.rl;generalize fO x more=g at*;generalize min 4 more.length=cnt at lg;clear hm hx;obtain ⟨o1,o2,o3,o4⟩:=eL hok.ok;have hk:=hok.le;refine h.var hg.st (λb6 G4 F4 l4 q6 h=> ?_) rfl hg.size;replace hg:=hg.le l4;have l04:=aa l03 l4;have r6:∀{G' F':PH} {As:List (Ψ)},G4.le G'->St G' F' As->F'.row (Addr.mk b6 0 none) w:=λl h=>ac (h.le _ _ (l _ _ q6));refine ⟨w,hg.size,r6 (aq _) h,?_⟩;refine h.run (lO (hT.le l04) hg hz hok hrl (by omega) (by omega)) λ_ G5 F5 hr l5 h=> ?_;obtain ⟨sn,N,rfl,hN,hsn⟩:=hr;refine ⟨sn,_,rfl,w,hg.size,r6 l5 h,?_⟩;refine h.run (ja (hT.le (aa l04 l5)) (hg.le l5) hz hok hrl (by omega) (by omega)) λ_ G6 F6 hr l6 h=> ?_;obtain ⟨sd,D,rfl,hD,hsd⟩:=hr;have l46:=aa l5 l6;refine ⟨sd,_,rfl,w,hg.size,r6 l46 h,?_⟩;refine h.run (tc (hT.le (aa l04 l46)) (hg.le l46) hz hok hrl (by omega) (by omega) (by omega)) λ_ G7 F7 hr l7 h=> ?_;obtain ⟨sf,rows,rfl,⟨S,hS,rfl⟩,hsf⟩:=hr;have l47:=aa l46 l7;have l07:=aa l04 l47;replace hsn:=hsn.le (aa l6 l7);replace hsd:=hsd.le l7;replace hg:=hg.le l47;have en:=hsn.len (by decide);have ed:=hsd.len (by decide);have ef:=hsf.len (by decide);rw [wB] at en ed;rw [s9] at ef;obtain ⟨c,n,t,s,p,l,f,rfl,hs⟩:=id hg;have es:=hs.s.len (by decide);have ep:=hs.p.len (by decide);refine ⟨sf,_,rfl,λhn=>absurd rfl hn,λ_=>⟨λhn=>absurd rfl hn,λ_=>⟨λhn=>absurd rfl hn,λ_=> ?_⟩⟩⟩;refine ⟨s,ld (h.le _ _ (l47 _ _ q6)) rfl,λhn=>absurd (by rw [en,es]) hn,λ_=>⟨λhn=>absurd (by rw [en,ed]) hn,λ_=>⟨λhn=>absurd (by rw [en,ef]) hn,λ_=> ?_⟩⟩⟩;refine bu (EJ · true b6 sn sd sf _) g.nons.length (λi F'=>∃(G':PH),G7.le G'/\St G' F' []) ⟨G7,aq _,h⟩ ?_;rintro i F8 N1 hi ⟨G8,l8,h⟩ next;have l48:=aa l47 l8;unfold EJ;refine ⟨λhlt=> ?_,λhge=> ?_⟩
 ·have hlt:i<g.nons.length:=by omega
  refine (h.call (bX false)).mono ?_;rintro _ F9 ⟨G9,⟨w1,rfl,hw1,l9⟩,h⟩;refine ⟨w1,rfl,?_⟩;refine h.new λb14 F10 h=> ?_;refine h.put0 (w':=w1) hw1.size rfl hw1.st λF11 h=> ?_;refine (h.call (bX false)).mono ?_;rintro _ F12 ⟨G10,⟨w2,rfl,hw2,l10⟩,h⟩;refine ⟨w2,rfl,?_⟩;refine h.new λb15 F13 h=> ?_;refine h.put0 (w':=w2) hw2.size rfl hw2.st λF14 h=> ?_;have l910:=aa l9 l10;have hfN:∀(i:Nat) (x:Pr),Sx g.conds.length (fw N true (aF g i) x.right):=λi x=>(cQ hN.sx x.right (hok.prs i)).1;have hfD:∀(i:Nat) (x:Pr),Sx g.conds.length (fw D false (aF g i) x.right):=λi x=>(cQ hD.sx x.right (hok.prs i)).1
  refine bu (EI N1 · true b6 sn sd sf (i:Int) b14 b15 _) g.prods.length (λq F'=>∃(G':PH) (y1 y2:Γ) (d1 d2:Tr),G10.le G'/\Sx g.conds.length d1/\Sx g.conds.length d2/\DV G' y1 (dia d1)/\DV G' y2 (dia d2)/\
   N i=uI (λj x=>fw N true (aF g j) x.right) i q (g.prods.drop q) d1/\D i=uI (λj x=>fw D false (aF g j) x.right) i q (g.prods.drop q) d2/\
   St G' F' [pt b15 (.cells y2 31),pt b14 (.cells y1 31)]) ⟨G10,w1,w2,_,_,aq _,Sx.leaf _ false,Sx.leaf _ false,hw1.le l10,hw2,by rw [Te,AN hok.prs hN],by rw [Te,AN hok.prs hD],h⟩ ?_
  rintro q F15 N2 hq ⟨G11,y1,y2,d1,d2,l11,hd1,hd2,hy1,hy2,hc1,hc2,h⟩ next2;have l811:=aa l910 l11;have l711:=aa l8 l811;have l411:=aa l48 l811;unfold EI;refine ⟨p,ld (h.le _ _ (l411 _ _ q6)) rfl,λhql=> ?_,λhqg=> ?_⟩
  ·have hql:q<g.prods.length:=by omega
   refine ⟨p,ld (h.le _ _ (l411 _ _ q6)) rfl,?_⟩;refine ixc (hs.p.le l711) (by decide) (by omega) (by omega) λa88 c88 x hx hrow hc88=> ?_;rw [N4] at hx;obtain ⟨r,n8,l8',rfl,_⟩:=hc88;have edrop:g.prods.drop q=x::g.prods.drop (q+1):=cv hx;rw [edrop] at hc1 hc2;have e1:∀(f:Nat->Pr->Tr) (d:Tr),uI f i q (x::g.prods.drop (q+1)) d=uI f i (q+1) (g.prods.drop (q+1)) (if x.left=i then ap2 oOr d (f q x) else d):=λ_ _=>rfl;rw [e1] at hc1 hc2;refine ⟨x.left,bN (aT h.le hrow) (i:=1) rfl,λhl=> ?_,λhl=> ?_⟩
   ·rw [if_pos hl] at hc1 hc2;refine ⟨y1,hy1.size,ac (h.ptAt (i:=1) rfl),_,rfl,r6 l411 h,?_⟩;refine h.run (qV (st:=true) (hg.le l711) hok hx hN.sx (hsn.le l711)) λ_ G12 F16 hr l12 h=> ?_;obtain ⟨z,rfl,hz1⟩:=hr;refine ⟨z,rfl,ac (h.ptAt (i:=1) rfl),?_⟩;refine h.run (P:=λr' G'=>∃y,r'=.tuple #[.agg y,vi 0]/\DV G' y (dia (ap2 oOr d1 (fw N true (aF g q) x.right)))) ((i7 hk hd1 (hfN q x) (hy1.le l12) hz1).mono λr F' ⟨x,a,b,c⟩=>⟨⟨x,a,b⟩,c⟩) λ_ G13 F17 hr l13 h=> ?_;obtain ⟨z1,rfl,hz2⟩:=hr;refine ⟨_,_,rfl,?_⟩;refine h.put1 (w':=z1) hz2.size hy1.size hz2.st λF18 h=> ?_;have l1113:=aa l12 l13;refine ⟨y2,hy2.size,ac (h.ptAt (i:=0) rfl),_,rfl,r6 (aa l411 l1113) h,?_⟩;refine h.run (qV (st:=false) (hg.le (aa l711 l1113)) hok hx hD.sx (hsd.le (aa l711 l1113))) λ_ G14 F19 hr l14 h=> ?_;obtain ⟨z3,rfl,hz3⟩:=hr;refine ⟨z3,rfl,ac (h.ptAt (i:=0) rfl),?_⟩;refine h.run (P:=λr' G'=>∃y,r'=.tuple #[.agg y,vi 0]/\DV G' y (dia (ap2 oOr d2 (fw D false (aF g q) x.right)))) ((i7 hk hd2 (hfD q x) (hy2.le (aa l1113 l14)) hz3).mono λr F' ⟨x,a,b,c⟩=>⟨⟨x,a,b⟩,c⟩) λ_ G15 F20 hr l15 h=> ?_;obtain ⟨z4,rfl,hz4⟩:=hr;refine ⟨_,_,rfl,?_⟩;refine h.put0 (w':=z4) hz4.size hy2.size hz4.st λF21 h=> ?_;unfold AQ;rw [aE hql (by omega)];exact next2 _ hql ⟨G15,z1,z4,_,_,aa l11 (aa l1113 (aa l14 l15)),hd1.ap2 (o:=oOr) (hfN q x),hd2.ap2 (o:=oOr) (hfD q x),hz2.le (aa l14 l15),hz4,hc1,hc2,h⟩
   ·rw [if_neg hl] at hc1 hc2;unfold AQ;rw [aE hql (by omega)];exact next2 _ hql ⟨G11,y1,y2,d1,d2,l11,hd1,hd2,hy1,hy2,hc1,hc2,h⟩
  ·have hq:q=g.prods.length:=by omega
   subst hq;rw [Tv] at hc1 hc2;have hc1:N i=d1:=hc1;have hc2:D i=d2:=hc2;unfold JM;have atN:∀{G' F':PH} {As:List (Ψ)},G7.le G'->St G' F' As->∀{K:Addr->Prop},(∀a (c:Γ),F'.row (a.add (Int.toNat (i:Int)*2)) c->G'.row (a.add (Int.toNat (i:Int)*2)) c->DV G' c (dia (N i))->K a)->∃a,sn.base=some a/\0<=(i:Int)/\(i:Int)<(sn.len:Int)/\K a:=λ{G' F' As} l h {K} kk=>
    ixc (hsn.le l) (by decide) (by omega) (by omega) λa c d hd hrow hc=>by rw [qU (by omega) (by omega)] at hd;cases hd;exact kk a c (aT h.le hrow) hrow hc
   have atD:∀{G' F':PH} {As:List (Ψ)},G7.le G'->St G' F' As->∀{K:Addr->Prop},(∀a (c:Γ),F'.row (a.add (Int.toNat (i:Int)*2)) c->DV G' c (dia (D i))->K a)->∃a,sd.base=some a/\0<=(i:Int)/\(i:Int)<(sd.len:Int)/\K a:=λ{G' F' As} l h {K} kk=>
    ixc (hsd.le l) (by decide) (by omega) (by omega) λa c d hd hrow hc=>by rw [qU (by omega) (by omega)] at hd;cases hd;exact kk a c (aT h.le hrow) hc
   refine ixc (hsf.le l711) (by decide) (by omega) (by omega) λa114 c114 row hrw hrow114 hc114=> ?_;rw [N4] at hrw;have hrw':row=nS S g.toks.length i:=by unfold jL at hrw;rw [SQ,Ts hlt] at hrw;exact (SY hrw).symm
   obtain ⟨sr,rfl,hsr⟩:=hc114;rw [hrw',EA] at hsr;refine ⟨sr,aY (aT h.le hrow114) rfl,?_⟩;refine atN l711 h λa119 c119 hrF hrG hcN=>⟨c119,hcN.size,hrF,?_⟩;have hsx:∀t∈(List.range g.toks.length).map λt:Nat=>S ((i:Int),(t:Int)),Sx g.conds.length t:=λt ht=>by obtain ⟨j,_,rfl⟩:=SL.1 ht;exact hS.sx _
   have hJ:∀{G':PH},G11.le G'->aj prog 30 #[sr.v] G' λr F'=>iw (dia (jT ((List.range g.toks.length).map λt:Nat=>S ((i:Int),(t:Int))))) r F'/\G'.le F':=λl=>wA hk hsx (by rw [SM,Th];omega) (hsr.le l);have hbe:=B1 hok hN hD hS i;have hjx:=(qT hsx).1;generalize jT ((List.range g.toks.length).map λt:Nat=>S ((i:Int),(t:Int)))=J at hJ hbe hjx;have hJs:∀{G':PH} {w:Γ},G11.le G'->DV G' w (dia J)->aj prog 28 #[.agg w,.agg c119] G' λr G''=>(∃y,r=.tuple #[.agg y,vi 0]/\DV G'' y (dia (D i)))/\G'.le G'':=λl hw=>by rw [<- hbe];exact (i7 hk hjx (hN.sx i) hw (hcN.le l)).mono λr F' ⟨x,a,b,c⟩=>⟨⟨x,a,b⟩,c⟩
   have fN:=jv (hN.sx i) hk;have fD:=jv (hD.sx i) hk;have fin:∀{G' F':PH} {y:Γ} {b17:Nat},G11.le G'->DV G' y (dia (D i))->St G' F' [pt b17 (.cells zD 31),pt b15 (.cells y2 31),pt b14 (.cells y1 31)]->
     au F' (Addr.mk b17 0 none) 2 y λF2=>wF N1 true b6 sn sd sf (i:Int) b14 b15 (some (Addr.mk b17 0 none)) (RT6 F) F2:=λ{G' F' y b17} l hy h=>by
    refine h.put0 hy.size rfl hy.st λF20 h=> ?_;unfold wF;have l7:=aa l711 l;refine ⟨y1,hy1.size,ac (h.ptAt (i:=2) rfl),?_⟩;refine atN l7 h λa127 c127 hr127 _ hc127=>⟨c127,hc127.size,hr127,?_⟩;refine h.runv (eI (hy1.le l) hc127 (by rw [<- hc1];exact fN)) λG12 F21 l12 h=>⟨_,rfl,λhn=> ?_,λ_=> ?_⟩
    ·rw [<- hc1,decide_eq_true rfl] at hn;cases hn
    have l712:=aa l7 l12;refine ⟨y2,hy2.size,ac (h.ptAt (i:=1) rfl),?_⟩;refine atD l712 h λa135 c135 hr135 hc135=>⟨c135,hc135.size,hr135,?_⟩;refine h.runv (eI (hy2.le (aa l l12)) hc135 (by rw [<- hc2];exact fD)) λG13 F22 l13 h=>⟨_,rfl,λhn=> ?_,λ_=> ?_⟩
    ·rw [<- hc2,decide_eq_true rfl] at hn;cases hn
    have l713:=aa l712 l13;refine ⟨_,rfl,y,hy.size,ac (h.ptAt (i:=0) rfl),?_⟩;refine atD l713 h λa144 c144 hr144 hc144=>⟨c144,hc144.size,hr144,?_⟩;refine h.runv (eI (hy.le (aa l12 l13)) hc144 fD) λG14 F23 l14 h=>⟨_,rfl,λhn=> ?_,λ_=> ?_⟩
    ·rw [decide_eq_true rfl] at hn;cases hn
    unfold JL;rw [aE hlt (by omega)];exact next _ hlt ⟨G14,aa l713 l14,h.tail.tail.tail⟩
   refine ⟨?_,?_⟩
   ·refine h.run (hJ (aq _)) λ_ G12 F16 hr l12 h=> ?_;obtain ⟨z,rfl,hz'⟩:=hr;refine ⟨z,rfl,aT (aa l12 h.le) hrG,?_,?_⟩
    ·refine h.run (hJs l12 hz') λ_ G13 F17 hr l13 h=> ?_;obtain ⟨y,rfl,hy⟩:=hr;exact ⟨_,_,rfl,h.new λb17 F18 h=>fin (aa l12 l13) hy h⟩
    ·refine h.new λb17 F17 h=> ?_;refine h.run (hJs l12 hz') λ_ G13 F18 hr l13 h=> ?_;obtain ⟨y,rfl,hy⟩:=hr;exact ⟨_,_,rfl,fin (aa l12 l13) hy h⟩
   ·refine h.new λb17 F16 h=> ?_;refine h.run (hJ (aq _)) λ_ G12 F17 hr l12 h=> ?_;obtain ⟨z,rfl,hz'⟩:=hr;refine ⟨z,rfl,aT (aa l12 h.le) hrG,?_⟩;refine h.run (hJs l12 hz') λ_ G13 F18 hr l13 h=> ?_;obtain ⟨y,rfl,hy⟩:=hr;exact ⟨_,_,rfl,fin (aa l12 l13) hy h⟩
 ·unfold JK;exact ⟨rfl,aa l07 (aa l8 h.le)⟩
end
end Go.Proofs.YtcemhghkipgdiaaGreatDoor
