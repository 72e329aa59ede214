/-
  The reference of package facts: First; FactsFirstMatchesReference: the walk.
-/
import Derived.Test.YtcemhghkipgdiaaGreatDoorBc
open Option renaming some->Y3,none->Y5
open Go.Obj renaming cells->Y4
open Bool renaming false->Y6,true->Y8
open Go.Value renaming agg->Y9,bool->Za
open Go.Addr renaming add->Zb,mk->Zc
noncomputable section
namespace Go.Proofs.YtcemhghkipgdiaaGreatDoor
open Go.IntKind (i64 u8 u64)
open Sl renaming v->Y7,nil->Zi
open Go Go.Proofs.Tryz Tr
set_option maxRecDepth 10000
theorem UJ:∃b z,SlT 50 63 2 b z:=NU
theorem UK:∃b z,SlT 33 55 13 b z:=⟨_,_,underlying33,Ux,UB,rfl,by decide,by decide⟩
abbrev AM (nm:ByteArray) (left:Int) (r n:Sl) (d:Int):Γ:= #[.string nm,vi left,r.v,n.v,vi d,Za Y6,vi 0,.slice Y5 0 0,.bool Y6,vi 0,vi 0,vi 0,vi 0]
theorem Ep (l:List Sy) (y:Sy):cat (l.map Sy.arr)++y.arr.toList=cat ((l++[y]).map Sy.arr):=by rw [Xt,bY];simp [cat]
theorem AN {G:PH} (l:List Sy):cZ G l (l.map Sy.arr):=by
 induction l with
 |nil=>exact .nil
 |cons x l ih=>exact .cons rfl ih
section
variable {F:PH}
theorem AO {v:Γ} {x:Rw} {sm:Sl} {more:List Ln} (hx:zy F v x) (hm:RL F sm more):ν 13 #[Y9 v,sm.v] F (LR F (gn x more)):=by
 obtain ⟨_,_,TS⟩:=UJ;obtain ⟨_,_,TP⟩:=UK;have em:=hm.len;have emc:=hm.cap;refine WJ ?_;unfold UP;have hvs:v.size=5:=by obtain ⟨⟨a,b,c,rfl,_⟩,_⟩:=hx;rfl
 refine (St.start F).newG λb2 G1 F1 l1 q2 _ h=>h.new λb4 F2 h=>⟨v,hvs,ac (h.le _ _ q2),?_⟩;refine h.run (P:=λr G'=>∃w,r=Y9 w/\GV G' w (dt x)) (xo (hx.le l1)) λ_ G3 F3 hr l3 h=> ?_;obtain ⟨w,rfl,hg⟩:=hr;refine ⟨w,rfl,?_⟩;obtain ⟨c,n,t,s,p,l,f,rfl,hgs⟩:=hg;have l13:=aa l1 l3;refine h.new λb5 F4 h=> ?_;refine h.put0 (w':=(dt x).arr c n t s p l f) rfl rfl (by simp [ak,Y7]) λF5 h=> ?_;have hmin:(more.take 4).length=min 4 more.length:=Xe ..
 refine bh (AY · sm b4 b5 _) (min 4 more.length) (λi F'=>∃(G':PH) (p':Sl),G3.le G'/\GS G' (eS (dt x) 0 ((more.take 4).take i)) c n t s p' l f/\
  ∃Bs,St G' F' ([pt b5 (Y4 ((eS (dt x) 0 ((more.take 4).take i)).arr c n t s p' l f) 37),pt b4 (Y4 zG 37)]++Bs)) ⟨G3,p,am _,hgs,[],h⟩ ?_
 rintro i F6 N1 hi ⟨G4,p4,l4,hg4,Bs,h⟩ next;replace h:St G4 F6 [pt b5 (Y4 ((eS (dt x) 0 ((more.take 4).take i)).arr c n t s p4 l f) 37),pt b4 (Y4 zG 37)]:=h.pick id (λ_ _ _ _ e=>e) λi hi=>by rw [id,Xh hi]
 unfold AY;have lg:LG (eS (dt x) 0 ((more.take 4).take i)) i:=by have:=LG.list ((more.take 4).take i) (LG.made x) (by rw [Xe,hmin];omega);rw [Xe,hmin,Xm] at this;rwa [show min i (min 4 more.length)=i by omega] at this
 have done:i=min 4 more.length->wU b4 b5 (LR F (gn x more)) F6:=λe=>by
  have e2:eS (dt x) 0 ((more.take 4).take i)=gn x more:=by unfold gn;rw [Xf (l:=more.take 4) (by omega)]
  rw [e2] at h hg4;unfold wU;refine ⟨_,rfl,ac (h.ptAt (i:=0) rfl),?_⟩;refine h.put1 (w':=(gn x more).arr c n t s p4 l f) rfl rfl (by simp [ak,Y7]) λF7 h=> ?_;exact ⟨_,rfl,ac (h.ptAt (i:=1) rfl),⟨_,rfl,c,n,t,s,p4,l,f,rfl,hg4.le h.le⟩,aa l13 (aa l4 h.le)⟩
 refine ⟨λhlt=>⟨λhi4=> ?_,λhi4=>done (by omega)⟩,λhlt=>done (by omega)⟩;have hil:i<more.length:=by omega
 have hi4':i<4:=by omega
 obtain ⟨y,hy⟩:∃y,more[i]? =Y3 y:=⟨_,N5 hil⟩;have htake:(more.take 4).take (i+1)=(more.take 4).take i++[y]:=by rw [XL,XG (by omega),hy];rfl
 have hnext:eS (dt x) 0 ((more.take 4).take (i+1))=IN (eS (dt x) 0 ((more.take 4).take i)) i y:=by rw [htake,oK,Xm,Xe,hmin,show min i (min 4 more.length)=i by omega]
 generalize eS (dt x) 0 ((more.take 4).take i)=g at*;have es:=hg4.s.len;have ec:=hg4.c.len;have ep:=hg4.p.len;have hc3:=lg.bd.c;have hn0:=lg.bd.n0;have hn3:=lg.bd.n;have hp22:=lg.bd.p;have l14:=aa l13 l4;refine ixc (hm.le l14) (by decide) (by omega) (by omega) λa31 c31 y' hy' hrow31 hc31=> ?_;rw [N4,hy] at hy';cases hy';obtain ⟨ry,rfl,hry,hyl,hyc,_,hyr⟩:=hc31;have ery:=hry.len;rw [Xd,Xz] at ery;refine ⟨(y.left:Int),aQ (aU h.le hrow31) rfl,s,ld (h.ptAt (i:=0) rfl) rfl,by omega,?_⟩;have el:Int.tmod (i64.wrap (y.left:Int)) (s.len:Int)=((y.left % g.YW.length:Nat):Int):=by rw [es,aP (by omega),gb]
 have ecx:u8.wrap (i64.wrap ((97:Int)+(i:Int)))=((97+i:Nat):Int):=by rw [show (97:Int)+(i:Int)=((97+i:Nat):Int) by omega,aP (by omega),xF (by omega)]
 rw [ecx,el];have sz2:(ByteArray.mk #[113]).size+(ByteArray.mk #[UInt8.ofNat (97+i)]).size<=9223372036854775807:=by show 1+1<=9223372036854775807;decide
 have fin:∀{G' F':PH} {b7:Nat},G4.le G'->St G' F' [pt b7 (Y4 (AM (fD i) ((y.left % g.YW.length:Nat):Int) Zi Zi 0) 55),pt b5 (Y4 (g.arr c n t s p4 l f) 37),pt b4 (Y4 zG 37)]->
   wY N1 sm b4 b5 (i:Int) (Y3 (Zc b7 0 Y5)) (LR F (gn x more)) F':=λ{G' F' b7} l5 h=>by
  unfold wY;refine ixc (hm.le (aa l14 l5)) (by decide) (by omega) (by omega) λa42 c42 y' hy' hrow42 hc42=> ?_;rw [N4,hy] at hy';cases hy';obtain ⟨ry,rfl,hry,hyl,hyc,_,hyr⟩:=hc42;have ery:=hry.len;rw [Xd,Xz] at ery;refine ⟨ry,bj (aU h.le hrow42) (i:=1) rfl,?_⟩;have h:=(h.nilOwn 63 2).swap;have hmr:(y.right.take 3).length=min 3 y.right.length:=Xe ..
  refine bh (AX N1 · sm b4 b5 (i:Int) (Y3 (Zc b7 0 Y5)) ry _) (min 3 y.right.length) (λk F'=>∃(G'':PH) (sr:Sl),G'.le G''/\sr.len=k/\
   ∃Bs,St G'' F' ([pt b7 (Y4 (AM (fD i) ((y.left % g.YW.length:Nat):Int) sr Zi 0) 55),own sr 63 2 (cat ((((y.right.take 3).map (cf g.YW.length)).take k).map Sy.arr)),pt b5 (Y4 (g.arr c n t s p4 l f) 37),pt b4 (Y4 zG 37)]++Bs)) ⟨G',Zi,am _,rfl,[],h⟩ ?_
  rintro k F7 N2 hk ⟨G5,sr,l6,hsr,Bs,h⟩ next2;replace h:St G5 F7 [pt b7 (Y4 (AM (fD i) ((y.left % g.YW.length:Nat):Int) sr Zi 0) 55),own sr 63 2 (cat ((((y.right.take 3).map (cf g.YW.length)).take k).map Sy.arr)),pt b5 (Y4 (g.arr c n t s p4 l f) 37),pt b4 (Y4 zG 37)]:=h.pick id (λ_ _ _ _ e=>e) λi hi=>by rw [id,Xh hi]
  have l46:=aa l5 l6;unfold AX;have done2:k=min 3 y.right.length->wW N1 sm b4 b5 (i:Int) (Y3 (Zc b7 0 Y5)) (LR F (gn x more)) F7:=λe=>by
   rw [Xf (by rw [Xd,hmr];omega)] at h;obtain ⟨G6,l7,hd,h⟩:=h.swap.pinO;have hsy:RL G6 sr ((y.right.take 3).map (cf g.YW.length)):=⟨_,AN _,hd⟩;have l47:=aa l46 l7;have hg6:=hg4.le l47;unfold wW;refine ixc (hm.le (aa l14 l47)) (by decide) (by omega) (by omega) λa85 c85 y' hy' hrow85 hc85=> ?_;rw [N4,hy] at hy';cases hy';obtain ⟨ry',rfl,_⟩:=hc85;refine ⟨(y.cond:Int),bj (aU h.le hrow85) (i:=2) rfl,c,ld (h.ptAt (i:=1) rfl) rfl,?_⟩;dsimp only;rw [ec];refine h.run (qK y.cond g.YY.length hyc (by omega) _) λ_ G7 F8 hr l8 h=> ?_;obtain ⟨⟨_,rfl,hw⟩,-⟩:=hr;obtain ⟨m,rfl,hmm⟩:=hw.out;refine ⟨_,rfl,ld (h.ptAt (i:=1) rfl) rfl,_,rfl,?_⟩;simp only [aE];refine h.putR0 (o:=3) (w':=(nP g i y).arr sr m Zi) rfl (by simp [ak,Y7]) (by show 3+2<=13;decide) rfl λF9 h=> ?_;have hP:Mem.rep G7 (nP g i y) ((nP g i y).arr sr m Zi):=⟨sr,m,Zi,rfl,hsy.le l8,hmm,RL.nil _⟩;refine ⟨p4,ld (h.ptAt (i:=1) rfl) rfl,_,rfl,ac (h.ptAt (i:=0) rfl),?_⟩;have hg7:=hg6.le l8;refine St.grow TP h hg7.p hP (by omega) rfl (λG' F' st=>ac (st.ptAt (i:=0) rfl)) λs' G8 F10 l9 hs' h=> ?_;have hg8:=hg7.le l9;refine h.set1 (w':=(IN g i y).arr c n t s s' l f) (Zn rfl) rfl λF11 h=> ?_;unfold wV;rw [aA (n:=4) hi4' (by decide)];have hlt':i<min 4 more.length:=by omega
   have hfin:=next F11 hlt';rw [hnext] at hfin;exact hfin ⟨G8,s',aa l4 (aa l47 (aa l8 l9)),⟨hg8.c,hg8.n,hg8.t,hg8.s,hs',hg8.l,hg8.f⟩,_,h.rot⟩
  refine ⟨λhkl=>⟨λhk3=> ?_,λhk3=>done2 (by omega)⟩,λhkl=>done2 (by omega)⟩;have hkr:k<y.right.length:=by omega
  obtain ⟨b,hb⟩:∃b,y.right[k]? =Y3 b:=⟨_,N5 hkr⟩;have hb256:b<256:=hyr b (W7 hb);have hsym:((y.right.take 3).map (cf g.YW.length))[k]? =Y3 (cf g.YW.length b):=by rw [Xj,XG (by omega),hb];rfl
  have hst:((y.right.take 3).map (cf g.YW.length)).take (k+1)=((y.right.take 3).map (cf g.YW.length)).take k++[cf g.YW.length b]:=by rw [XL,hsym];rfl
  have hat:∀{G' F':PH} {As:List (Ψ)},G5.le G'->St G' F' As->∃a,ry.YZ=Y3 a/\0<=(k:Int)/\(k:Int)<(ry.len:Int)/\F'.cell (Zb a (Int.toNat (k:Int)*1))=Y3 (vB b):=λl h=>
   (((hry.le l6).le l).le h.le).at6 (by rw [Xj,hb];rfl)
  obtain ⟨a57,e1,e2,e3,e4⟩:=hat (am _) h;refine ⟨a57,e1,e2,e3,(b:Int),e4,s,ld (h.ptAt (i:=2) rfl) rfl,by omega,?_⟩;have eb:Int.tmod (i64.wrap (b:Int)) (s.len:Int)=((b % g.YW.length:Nat):Int):=by rw [es,aP (by omega),gb]
  have eb9:Int.tmod (i64.wrap (b:Int)) (9:Int)=((b % 9:Nat):Int):=by rw [aP (by omega)];exact gb b 9
  rw [eb];refine h.new λb10 F8 h=> ?_;refine h.put0 (w':= #[Za Y6,vi ((b % g.YW.length:Nat):Int)]) rfl rfl (by simp [ak]) λF9 h=> ?_;obtain ⟨a67,f1,f2,f3,f4⟩:=hat (am _) h;refine ⟨a67,f1,f2,f3,(b:Int),f4,?_⟩;have fin5:∀{F':PH} {sy:Sy},sy=cf g.YW.length b->St G5 F' [pt b10 (Y4 sy.arr 63),pt b7 (Y4 (AM (fD i) ((y.left % g.YW.length:Nat):Int) sr Zi 0) 55),own sr 63 2 (cat ((((y.right.take 3).map (cf g.YW.length)).take k).map Sy.arr)),pt b5 (Y4 (g.arr c n t s p4 l f) 37),pt b4 (Y4 zG 37)]->
    wX N1 N2 sm b4 b5 (i:Int) (Y3 (Zc b7 0 Y5)) ry (k:Int) b10 (LR F (gn x more)) F':=λ{F' sy} esy h=>by
   unfold wX;refine ⟨_,rfl,sr,by rw [aE];exact ld (h.ptAt (i:=1) rfl) rfl,sy.arr,rfl,ac (h.ptAt (i:=0) rfl),rfl,?_⟩;refine h.push2 TS (c:=sy.arr) rfl (by simp [ak]) (by omega) λs' G6 F10 l7 h hl'=> ?_;rw [Ep,esy,<- hst] at h;simp only [aE];refine h.set1 (w':=AM (fD i) ((y.left % g.YW.length:Nat):Int) s' Zi 0) (Zn rfl) rfl λF11 h=> ?_;rw [aA (n:=3) (by omega) (by decide)];exact next2 _ (by omega) ⟨G6,s',aa l6 l7,by omega,_,h.rot⟩
  refine ⟨λhgt=> ?_,λhle=> ?_⟩
  ·obtain ⟨a72,g1,g2,g3,g4⟩:=hat (am _) h;refine ⟨a72,g1,g2,g3,(b:Int),g4,?_⟩;dsimp only;rw [eb9];refine h.put0 (w':= #[Za Y8,vi ((b % 9:Nat):Int)]) rfl rfl (by simp [ak]) λF10 h=> ?_;exact fin5 (sy:=⟨Y8,((b % 9:Nat):Int)⟩) (by unfold cf;rw [if_pos (by omega)]) h
  ·exact fin5 (sy:=⟨Y6,((b % g.YW.length:Nat):Int)⟩) (by unfold cf;rw [Υ (by omega)]) h
 refine ⟨?_,?_⟩
 ·refine h.newG λb26 G5 F7 l5 q26 _ h=> ?_;refine ⟨_,iA (h.le _ _ q26),sz2,?_⟩;refine h.new λb7 F8 h=> ?_;refine h.put0 (w':=AM (fD i) ((y.left % g.YW.length:Nat):Int) Zi Zi 0) rfl rfl (by simp [ak,Y7,Zi]) λF9 h=> ?_;exact fin l5 h
 ·refine h.new λb7 F8 h=> ?_;refine h.newG λb26 G5 F7 l5 q26 _ h=> ?_;refine ⟨_,iA (h.le _ _ q26),sz2,?_⟩;refine h.put0 (w':=AM (fD i) ((y.left % g.YW.length:Nat):Int) Zi Zi 0) rfl rfl (by simp [ak,Y7,Zi]) λF9 h=> ?_;exact fin l5 h
end
theorem HV {F:PH} {a:Addr} {x:Pr} {r n l:Sl} (h:F.row a (x.arr r n l)):F.row (a.add 3) #[n.v,vi x.cond.2]:=BH h rfl
theorem Er {F:PH} {a:Addr} {x:Tk} {p n:Sl} (h:F.row a (x.arr p n)):F.row (a.add 5) #[n.v,vi x.cond.2]:=BH h rfl
theorem ik {k:Nat} {a b:Tr} {u w:Γ} {F:PH} (hk:k<=6) (ha:Sx k a) (hb:Sx k b) (hu:DV F u (dia a)) (hw:DV F w (dia b)):ν 45 #[Y9 u,Y9 w] F λr F'=>lj (dia (ap2 aY a b)) r F'/\F.le F':=
 (iF hu hw (ha.f2 hb hk)).mono λ_ _ ⟨w,h1,h2,h3⟩=>⟨⟨w,h1,h2⟩,h3⟩
theorem uA {k:Nat} {a b:Tr} {u w:Γ} {F:PH} (hk:k<=6) (ha:Sx k a) (hb:Sx k b) (hu:DV F u (dia a)) (hw:DV F w (dia b)):ν 123 #[Y9 u,Y9 w] F λr F'=>lj (dia (ap2 oOr a b)) r F'/\F.le F':=
 (rN hu hw (ha.f2 hb hk)).mono λ_ _ ⟨w,h1,h2,h3⟩=>⟨⟨w,h1,h2⟩,h3⟩
section
variable {F:PH} {g:Gr} {k:Nat}
theorem gQ {v:Γ} (hg:GV F v g) (hk:OkK g k) {i:Nat} (hi:i<g.YV.length):ν 70 #[Y9 v,vi i] F λr F'=>lj (dia (aD g i)) r F'/\F.le F':=by
 obtain ⟨o1,o2,o3,o4⟩:=dp hk.ok;obtain ⟨c,n,t,s,p,l,f,rfl,hs⟩:=hg;have ep:=hs.p.len;have et:=hs.t.len;refine WR ?_;unfold UW;refine (St.start F).newG λb2 G1 F1 l1 q2 _ h=>h.new λb4 F2 h=> ?_;have hs1:=hs.le l1;have hf:DV G1 #[n.v,vi g.fam.2] (dia (tre g.fam)):=by rw [<- hk.fam.2];exact DV.mk hs1.n
 refine ⟨#[n.v,vi g.fam.2],rfl,je (h.le _ _ q2) rfl,_,ld (h.le _ _ q2) rfl,?_⟩;refine ixc hs1.p (by decide) (by omega) (by omega) λa13 c13 x hx hrow hc=> ?_;rw [N4] at hx hrow ⊢;have hxm:=W7 hx;obtain ⟨hxc,hxd,_,hsy⟩:=hk.prod hxm;have hxl:=o4 x hxm;obtain ⟨r,n8,l8,rfl,hr,hn8,_⟩:=hc;have er:=hr.len;have hd2:DV G1 #[n8.v,vi x.cond.2] (dia (tre x.cond)):=by rw [<- hxd];exact DV.mk hn8
 refine ⟨#[n8.v,vi x.cond.2],rfl,aU h.le (HV hrow),?_⟩;have hfc:=hk.fam.1.ap2 (o:=aY) hxc;have ep2:aD g i=jm g (ap2 aY (tre g.fam) (tre x.cond)) x.right:=by unfold aD;rw [hx]
 have fin:∀{G' F':PH} {y:Γ} {b5:Nat},G1.le G'->DV G' y (dia (ap2 aY (tre g.fam) (tre x.cond)))->St G' F' [pt b5 (Y4 y 31),pt b4 (Y4 zD 31)]->
   w8 (i:Int) b2 b4 (Y3 (Zc b5 0 Y5)) (λr F'=>lj (dia (aD g i)) r F'/\F.le F') F':=λ{G' F' y b5} l2 hy h=>by
  unfold w8;have q22:=l2 _ _ q2;refine ⟨_,ld (h.le _ _ q22) rfl,?_⟩;refine ixc (hs1.p.le l2) (by decide) (by omega) (by omega) λa20 c20 x' hx' hrow20 hc20=> ?_;rw [N4] at hx' hrow20 ⊢;rw [hx] at hx';cases hx';obtain ⟨r,n8,l8,rfl,hr,_⟩:=hc20;have er:=hr.len;refine ⟨r,bj (aU h.le hrow20) (i:=2) rfl,?_⟩;refine bh (A4 · b2 b4 (Y3 (Zc b5 0 Y5)) r _) x.right.length (λj F'=>∃(G'':PH) (u:Γ),G'.le G''/\DV G'' u (dia (jm g (ap2 aY (tre g.fam) (tre x.cond)) (x.right.take j)))/\St G'' F' [pt b5 (Y4 u 31),pt b4 (Y4 zD 31)]) ⟨G',y,am _,by rw [XY];exact hy,h⟩ ?_;rintro j F3 N hj ⟨G3,u,l3,hu,h⟩ next;have l13:=aa l2 l3;unfold A4;refine ⟨λhlt=> ?_,λhge=> ?_⟩
  ·have hlt:j<x.right.length:=by omega
   refine ixc (hr.le l3) (by decide) (by omega) (by omega) λa31 c31 sy hsj hrow31 hc31=> ?_;rw [N4] at hsj;obtain rfl:c31=sy.arr:=hc31;obtain ⟨s0,_,s2⟩:=hsy sy (W7 hsj);have et2:=dz hsj;have hsn:=mZ (g:=g) sy (x.right.take j) (ap2 aY (tre g.fam) (tre x.cond));refine ⟨sy.t,aQ (aU h.le hrow31) rfl,λht=> ?_,λht=> ?_⟩
   ·rw [Χ ht] at hsn;obtain ⟨tk,htk,_⟩:=s2 ht;have ed:kf g sy.i=tre tk.cond:=by unfold kf;rw [htk]
    obtain ⟨tx,td⟩:=hk.tok (W7 htk);have hti:sy.i.toNat<g.YX.length:=(N6.1 htk).1;refine ⟨_,rfl,u,hu.size,ac (h.ptAt (i:=0) rfl),_,ld (h.le _ _ (l3 _ _ q22)) rfl,?_⟩;refine ixc (hr.le l3) (by decide) (by omega) (by omega) λa39 c39 sy' hsj' hrow39 hc39=> ?_;rw [N4,hsj] at hsj';cases hsj';obtain rfl:c39=sy.arr:=hc39;refine ⟨sy.i,bj (aU h.le hrow39) (i:=1) rfl,?_⟩;refine ixc (hs1.t.le l13) (by decide) s0 (by omega) λa42 c42 tk' htk' hrow42 hc42=> ?_;rw [htk] at htk';cases htk';obtain ⟨pp,nn,rfl,_,hnn⟩:=hc42;have hdt:DV G3 #[nn.v,vi tk.cond.2] (dia (kf g sy.i)):=by rw [ed,<- td];exact DV.mk hnn
    obtain ⟨fx,_⟩:=eT hk (x.right.take j) hfc;refine ⟨#[nn.v,vi tk.cond.2],rfl,aU h.le (Er hrow42),?_⟩;refine h.run (ik hk.le fx (hk.tkd sy.i) hu hdt) λ_ G4 F4 hr4 l4 h=> ?_;obtain ⟨z,rfl,hz⟩:=hr4;refine ⟨z,rfl,bj (aU (aa l4 h.le) hrow39) (i:=1) rfl,ld (h.le _ _ (l4 _ _ (l3 _ _ q22))) rfl,?_⟩;refine h.put0 (w':=z) hz.size hu.size hz.st λF5 h=> ?_;unfold w7;rw [aA hlt];refine next _ hlt ⟨G4,z,aa l3 l4,?_,h⟩;rw [et2,hsn];exact hz
   ·rw [Υ (by rw [ht];decide)] at hsn;unfold w7;rw [aA hlt];refine next _ hlt ⟨G3,u,l3,?_,h⟩;rw [et2,hsn];exact hu
  ·have e:j=x.right.length:=by omega
   subst e;rw [Xg,<- ep2] at hu;unfold Iv;refine ⟨_,rfl,u,hu.size,ac (h.ptAt (i:=0) rfl),?_⟩;refine h.put1 (w':=u) hu.size rfl hu.st λF5 h=> ?_;exact ⟨u,hu.size,ac (h.ptAt (i:=1) rfl),⟨u,rfl,hu.le h.le⟩,aa l1 (aa l13 h.le)⟩
 refine ⟨?_,?_⟩
 ·refine h.run (ik hk.le hk.fam.1 hxc hf hd2) λ_ G3 F3 hr3 l3 h=> ?_;obtain ⟨y,rfl,hy⟩:=hr3;refine ⟨y,rfl,ld (h.le _ _ (l3 _ _ q2)) rfl,?_⟩;refine h.new λb5 F4 h=> ?_;exact h.put0 (w':=y) hy.size rfl hy.st λF5 h=>fin l3 hy h
 ·refine h.new λb5 F3 h=> ?_;refine h.run (ik hk.le hk.fam.1 hxc hf hd2) λ_ G3 F4 hr3 l3 h=> ?_;obtain ⟨y,rfl,hy⟩:=hr3;refine ⟨y,rfl,ld (h.le _ _ (l3 _ _ q2)) rfl,?_⟩;exact h.put0 (w':=y) hy.size rfl hy.st λF5 h=>fin l3 hy h
def jh (S:Int->Tr) (st:Bool):Tr->List Sy->Tr
 |d,[]=>d
 |d,s::r=>jh S st (if s.t=Y8 then (if st=Y8 then Y0 Y6 else d) else ap2 aY d (S s.i)) r
theorem uB (S:Int->Tr) (st:Bool) (s:Sy):∀(r:List Sy) (d:Tr),jh S st d (r++[s])=if s.t=Y8 then (if st=Y8 then Y0 Y6 else jh S st d r) else ap2 aY (jh S st d r) (S s.i)
 |[],d=>rfl
 |x::r,d=>by rw [XP];unfold jh;exact uB S st s r _
theorem cL {S:Int->Tr} {st:Bool} (hS:Sxs k S):∀(r:List Sy) {d:Tr},Sx k d->Sx k (jh S st d r)/\∀c,(jh S st d r).ev c=Y8↔d.ev c=Y8/\∀s∈r,(s.t=Y8->st=Y6)/\(s.t=Y6->(S s.i).ev c=Y8)
 |[],d,hd=>⟨hd,λc=>⟨λh=>⟨h,λ_ h=>(by cases h)⟩,λh=>h.1⟩⟩
 |s::r,d,hd=>by
  unfold jh;have split:∀{p:Prop} {q:Sy->Prop},(p/\∀y∈s::r,q y)↔(p/\q s)/\∀y∈r,q y:=λ{p q}=>
   ⟨λh=>⟨⟨h.1,h.2 s (by simp)⟩,λy hy=>h.2 y (Xo _ hy)⟩,λh=>⟨h.1.1,λy hy=>by
    rcases W6.1 hy with rfl|hy
    ·exact h.1.2
    ·exact h.2 y hy⟩⟩
  by_cases hs:s.t=Y8
  ·rw [Χ hs];by_cases hst:st=Y8
   ·rw [Χ hst];obtain ⟨h1,h2⟩:=cL (st:=st) hS r (Sx.Y0 k Y6);refine ⟨h1,λc=>(h2 c).trans ?_⟩;rw [split];refine and_congr_left λ_=>⟨λh=>(by cases h),λh=> ?_⟩;have:=h.2.1 hs;rw [hst] at this;cases this
   ·rw [Υ hst];obtain ⟨h1,h2⟩:=cL (st:=st) hS r hd;refine ⟨h1,λc=>(h2 c).trans ?_⟩;rw [split];refine and_congr_left λ_=>⟨λh=>⟨h,λ_=>XZ.2 hst,λh'=>(by rw [hs] at h';cases h')⟩,λh=>h.1⟩
  ·rw [Υ hs];obtain ⟨h1,h2⟩:=cL (st:=st) hS r (hd.ap2 (o:=aY) (hS s.i));refine ⟨h1,λc=>(h2 c).trans ?_⟩;rw [split,(bq hd.1 (hS s.i).1).2];refine and_congr_left λ_=> ?_;show (d.ev c && (S s.i).ev c)=Y8↔_;rw [Xq];exact and_congr_right λ_=>⟨λh=>⟨λh'=>absurd h' hs,λ_=>h⟩,λh=>h.2 (XZ.2 hs)⟩
theorem HW {S:Int->Tr} {n:Nat} {i:Int} (h0:0<=i) (h1:i<n):(bK S n)[i.toNat]? =Y3 (dia (S i)):=by unfold bK;rw [Xj,XF (by omega),XT,Int.toNat_of_nonneg h0]
theorem mN (S:Int->Tr) (n:Nat):(bK S n).length=n:=by unfold bK;rw [Xd,XI]
end
section
end
section
end
section
end
section
end
theorem Dd {c w:Γ} (h:w.size=c.size):wr c 0 w.toList=w:=by have e:=dM w.toList c.toList 0 (by rw [Xb,Xb];omega);rw [show c.toList.toArray=c by simp,XY,XM,Xm,List.drop_eq_nil_of_le (by rw [Xb,Xb];omega),XH] at e;simpa using e
def mD (G0:PH) (s:Sl) (ds:List Dia):Ψ:=λH=>∃vs:List Γ,cZ G0 ds vs/\own s 31 2 (cat vs) H
theorem mD.le {G0 G1 H:PH} {s:Sl} {ds:List Dia} (h:mD G0 s ds H) (l:G0.le G1):mD G1 s ds H:=by obtain ⟨vs,a,b⟩:=h;exact ⟨vs,a.le l,b⟩
theorem qv {S:Int->Tr} {n j:Nat} (h:j<n):(bK S n)[j]? =Y3 (dia (S (j:Int))):=by unfold bK;rw [Xj,XF h];rfl
theorem HX {S:Int->Tr} {n j:Nat} {t:Tr} (h:j<n):bK (dx S (j:Int) t) n=(bK S n).set j (dia t):=by
 refine XR λm=> ?_;by_cases hm:m<n
 ·rw [qv hm];by_cases e:j=m
  ·subst e;rw [X0 (by rw [mN];exact h)];unfold dx;rw [Χ rfl]
  ·rw [Ys e,qv hm];unfold dx;rw [Υ (by omega)]
 ·rw [XC (by rw [mN];omega),XC (by rw [YH,mN];omega)]
theorem HY:∀(n:Nat) (L:Ξ),L.length=n*2->∃vs:List Γ,cat vs=L/\vs.length=n/\∀d∈vs,d.size=2
 |0,L,h=>⟨[],by rw [Xp (by omega:L.length=0)];rfl,rfl,λ_ h=>(by cases h)⟩
 |n+1,L,h=>by
  match L,h with
  |[_],h=>simp only [Xl,List.length_nil] at h;omega
  |a::b::L,h=>
   obtain ⟨vs,h1,h2,h3⟩:=HY n L (by simp only [Xl] at h;omega);refine ⟨#[a,b]::vs,by rw [bI,h1];rfl,by rw [Xl,h2],λd hd=> ?_⟩;rcases W6.1 hd with rfl|hd
   ·rfl
   ·exact h3 d hd
def Rdb (G:PH) (As:List (Ψ)) (s:Sl) (S:Int->Tr) (n:Nat):Prop:=∀(G' F':PH) (Bs:List (Ψ)),G.le G'->St G' F' (Bs++As)->∀i:Int,0<=i->i<n->∀K:Addr->Prop,(∀a (c:Γ),F'.row (a.add (i.toNat*2)) c->DV G' c (dia (S i))->K a)->∃a,s.YZ=Y3 a/\0<=i/\i<(s.len:Int)/\K a
section
variable {G F G0:PH} {As:List (Ψ)} {k n:Nat} {s:Sl} {S:Int->Tr}
theorem Rdb.pin (h:RL G s (bK S n)):Rdb G As s S n:=λG' F' Bs l st i h0 h1 K kk=>by have hl:=h.len;rw [mN] at hl;refine ixc (h.le l) (by decide) h0 (by omega) λa c d hd hrow hc=> ?_;rw [HW h0 h1] at hd;cases hd;exact kk a c (aU st.le hrow) hc
theorem St.mD_ix {j:Nat} (h:St G F As) (hi:As[j]? =Y3 (mD G0 s (bK S n))) (l:G0.le G) {i:Int} (h0:0<=i) (h1:i<n) {K:Addr->Prop} (kk:∀a (c:Γ),F.row (a.add (i.toNat*2)) c->DV G c (dia (S i))->K a):∃a,s.YZ=Y3 a/\0<=i/\i<(s.len:Int)/\K a:=by
 obtain ⟨m,rfl⟩:=XW h0;have hm:m<n:=by omega
 obtain ⟨vs,h⟩:=h.exI j hi;have hj:j<As.length:=(N6.1 hi).1;obtain ⟨hr,h⟩:=h.prI j (X0 hj);obtain ⟨c,hc,hcr,hcd⟩:=hr.get (qv hm);exact h.elR j (X0 (by rw [YH];exact hj)) hr.sz hc (by decide) hcd λa hrow=>kk a c hrow (DV.le (show DV G0 c _ from hcr) l)
theorem St.mD_pin {ds:List Dia} (h:St G F (mD G0 s ds::As)):∃G',G.le G'/\(G0.le G->RL G' s ds)/\St G' F As:=by obtain ⟨G',l,⟨H,⟨vs,a,b⟩,hH⟩,h⟩:=h.pin;exact ⟨G',l,λl0=>⟨vs,a.le (aa l0 l),(bV.rd b).le hH⟩,h⟩
theorem Rdb.own {j:Nat} (hi:As[j]? =Y3 (mD G0 s (bK S n))) (l:G0.le G):Rdb G As s S n:=λG' F' Bs l' st i h0 h1 K kk=>
 st.mD_ix (j:=Bs.length+j) (by rw [Xn (Nat.le_add_right _ _),Yu];exact hi) (aa l l') h0 h1 kk
theorem Rdb.le {G1:PH} (h:Rdb G As s S n) (l:G.le G1):Rdb G1 As s S n:=λG' F' Bs l'=>h G' F' Bs (aa l l')
theorem uC (hn:n<=1000000) (h:St G F As):ν 68 #[vi n] F λr F'=>∃G' s,r=Y7 s/\G.le G'/\s.len=n/\St G' F' (mD G' s (bK (λ_=>Y0 Y6) n)::As):=by
 refine WP ?_;unfold UU;refine bU underlying39 Pg HQ rfl (by omega) (YK _) (by omega) (by omega) ?_;refine λb hb=>⟨_,rfl,?_⟩;rw [N4];have hz:(Builtin.zeroCells (Value.agg zD).cells n).size=n*2:=by simp [Builtin.zeroCells,Value.cells]
 generalize Builtin.zeroCells (Value.cells _) n=z0 at hz ⊢;obtain ⟨vs0,e1,e2,e3⟩:=HY n z0.toList (by rw [Xb,hz]);revert b hb;refine h.new (K:=λb F'=>Lp (0:Int) F' λN v F=>w6 N (n:Int) ⟨Y3 ⟨b,0,Y5⟩,n,n⟩ _ v F) λb F1 h=> ?_;have h:=h.imp (A':=own (Sl.mk (Y3 (Zc b 0 Y5)) n n) 31 2 (cat vs0)) 0 rfl λH _ hH=>by rw [e1];exact KQ hH hz
 refine bh (w6 · (n:Int) ⟨Y3 ⟨b,0,Y5⟩,n,n⟩ _) n (λi F'=>∃(G':PH) (vs:List Γ),G.le G'/\vs.length=n/\(∀d∈vs,d.size=2)/\cZ G' (bK (λ_=>Y0 Y6) i) (vs.take i)/\
  St G' F' (own (Sl.mk (Y3 (Zc b 0 Y5)) n n) 31 2 (cat vs)::As)) ⟨G,vs0,am _,e2,e3,by rw [XY];exact .nil,h⟩ ?_
 rintro i F2 N hi ⟨G1,vs,l1,hvl,hvs,hv,h⟩ next;unfold w6;refine ⟨λhlt=> ?_,λhge=> ?_⟩
 ·have hlt:i<n:=by have:(i:Int)<(n:Int):=hlt;omega
  refine (h.call (bH Y6)).mono ?_;rintro _ F3 ⟨G2,⟨w,rfl,hw,l2⟩,h⟩;refine ⟨w,rfl,?_⟩;obtain ⟨c,hc⟩:∃c,vs[i]? =Y3 c:=⟨_,N5 (by omega)⟩;have hcs:=hvs c (W7 hc);obtain ⟨a,g1,g2,g3,g4⟩:=h.elN 0 rfl hvs hc (by decide) (off:=0) (m:=2) (v:=w) hw.size (by decide) hw.st (C:=λF'=>N (i64.wrap ((i:Int)+1)) F') λF4 h=>by
   rw [aA hlt];rw [Dd (by rw [hw.size,hcs])] at h;refine next _ hlt ⟨G2,vs.set i w,aa l1 l2,by rw [YH,hvl],λd hd=> ?_,?_,h⟩
   ·rcases List.mem_or_eq_of_mem_set hd with hd|rfl
    ·exact hvs d hd
    ·exact hw.size
   ·rw [uL,XL,X0 (by omega),List.take_set_of_le (W8 i)];exact (hv.le l2).append (.cons hw .nil)
  exact ⟨a,g1,g2,g3,g4⟩
 ·have e:i=n:=by have:¬(i:Int)<(n:Int):=hge;omega
  subst e;rw [Xf (by omega)] at hv;unfold It;exact ⟨G1,_,rfl,l1,rfl,h.imp 0 rfl λH _ hH=>⟨vs,hv,hH⟩⟩
theorem sK {i:Int} {d:Tr} {v:Γ} (hk:k<=6) (hS:Sxs k S) (hd:Sx k d) (hv:DV G v (dia d)) (h0:0<=i) (h1:i<n) (l0:G0.le G) (h:St G F (mD G0 s (bK S n)::As)):
  ν 61 #[s.v,vi i,Y9 v] F λr F'=>∃G' ch,r=Za ch/\(ch=Y8↔bo S i d≠S)/\G.le G'/\St G' F' (mD G' s (bK (bo S i d) n)::As):=by
 obtain ⟨j,rfl⟩:=XW h0;have hj:j<n:=by omega
 obtain ⟨vs,h⟩:=h.exI 0 rfl;obtain ⟨hr,h⟩:=h.prI 0 rfl;have h:St G F (own s 31 2 (cat vs)::As):=h;have hsz:=hr.sz;obtain ⟨c,hc,hcr,hcd⟩:=hr.get (qv hj);have hcG:DV G c (dia (S j)):=DV.le (show DV G0 c _ from hcr) l0;have hnew:=(hS (j:Int)).ap2 (o:=oOr) hd;have hne:(ap2 oOr (S j) d=S j)↔bo S j d=S:=by
  constructor
  ·intro e;unfold bo;rw [e,mX]
  ·intro e;have:=congrFun e (j:Int);unfold bo dx at this;rwa [Χ rfl] at this
 refine WO ?_;unfold UT;refine h.newG λb5 G1 F1 l1 q5 _ h=> ?_;refine h.elR 0 rfl hsz hc (by decide) hcd λa hrow=>⟨c,hcG.size,hrow,v,hv.size,ac (h.le _ _ q5),?_⟩;have fin:∀{G' F':PH} {w:Γ} {b7:Nat},G1.le G'->DV G' w (dia (ap2 oOr (S j) d))->St G' F' (pt b7 (Y4 zD 31)::own s 31 2 (cat vs)::As)->
   au F' (Zc b7 0 Y5) 2 w λF2=>wZ s (j:Int) (Y3 (Zc b7 0 Y5)) (λr F'=>∃G' ch,r=Za ch/\(ch=Y8↔bo S j d≠S)/\G.le G'/\St G' F' (mD G' s (bK (bo S j d) n)::As)) F2:=λ{G' F' w b7} l hw h=>by
  refine h.put0 hw.size rfl hw.st λF2 h=> ?_;unfold wZ;refine ⟨_,rfl,w,hw.size,ac (h.ptAt (i:=0) rfl),?_⟩;refine h.elR 1 rfl hsz hc (by decide) hcd λa hrow=>⟨c,hcG.size,hrow,?_⟩;refine h.runv (gg hw (hcG.le (aa l1 l)) (j7 hnew hk)) λG3 F3 l3 h=>⟨_,rfl,λhe=> ?_,λhn=> ?_⟩
  ·have e:=mL hnew.1 (hS j).1 (ε he);have e2:=hne.1 e;refine ⟨G3,Y6,rfl,⟨λh=>(by cases h),λh=>absurd e2 h⟩,aa l1 (aa l l3),?_⟩;rw [e2];exact h.tail.imp 0 rfl λH _ hH=>⟨vs,hr.le (aa l0 (aa l1 (aa l l3))),hH⟩
  ·have e2:bo S j d≠S:=λe=>η hn (congrArg dia (hne.2 e));refine ⟨w,hw.size,ac (h.ptAt (i:=0) rfl),?_⟩;obtain ⟨a,g1,g2,g3,g4⟩:=h.elN 1 rfl hsz hc (by decide) (off:=0) (m:=2) (v:=w) hw.size (by decide) hw.st (C:=λF'=>∃G' ch,Za Y8=Za ch/\(ch=Y8↔bo S j d≠S)/\G.le G'/\St G' F' (mD G' s (bK (bo S j d) n)::As)) λF4 h=>by rw [Dd (by rw [hw.size,hcG.size])] at h;refine ⟨G3,Y8,rfl,⟨λ_=>e2,λ_=>rfl⟩,aa l1 (aa l l3),?_⟩;have h:St G3 F4 (pt b7 (Y4 w 31)::own s 31 2 (cat (vs.set j w))::As):=h;refine h.tail.imp 0 rfl λH _ hH=>⟨vs.set j w,?_,hH⟩;unfold bo;rw [HX hj];exact (hr.le (aa l0 (aa l1 (aa l l3)))).set (show Mem.rep G3 (dia (ap2 oOr (S j) d)) w from hw.le l3)
   exact ⟨a,g1,g2,g3,g4⟩
 refine ⟨?_,?_⟩
 ·refine h.run (uA hk (hS j) hd (hcG.le l1) (hv.le l1)) λ_ G2 F2 hr2 l2 h=> ?_;obtain ⟨w,rfl,hw⟩:=hr2;refine ⟨w,rfl,?_⟩;exact h.new λb7 F3 h=>fin l2 hw h
 ·refine h.new λb7 F2 h=> ?_;refine h.run (uA hk (hS j) hd (hcG.le l1) (hv.le l1)) λ_ G2 F3 hr2 l2 h=> ?_;obtain ⟨w,rfl,hw⟩:=hr2;exact ⟨w,rfl,fin l2 hw h⟩
theorem fZ {d:Tr} {v:Γ} {r:Sl} {rl:List Sy} {st:Bool} (hk:k<=6) (hS:Sxs k S) (hd:Sx k d) (hv:DV G v (dia d)) (hr:RL G r rl) (hrl:rl.length<=1000000) (hsy:∀y∈rl,y.t=Y6->0<=y.i/\y.i<n) (hb:Rdb G As s S n) (h:St G F As):
  ν 69 #[Y9 v,r.v,s.v,Za st] F λx F'=>∃G',lj (dia (jh S st d rl)) x G'/\G.le G'/\St G' F' As:=by
 have er:=hr.len;refine WQ ?_;unfold UV;refine h.new λb4 F1 h=>h.new λb8 F2 h=> ?_;refine bh (A3 · r s st b4 b8 _) rl.length (λj F'=>∃(G':PH) (u:Γ),G.le G'/\DV G' u (dia (jh S st d (rl.take j)))/\St G' F' (pt b8 (Y4 zD 31)::pt b4 (Y4 u 31)::As)) ⟨G,v,am _,by rw [XY];exact hv,h⟩ ?_;rintro j F3 N hj ⟨G1,u,l1,hu,h⟩ next;unfold A3;refine ⟨λhlt=> ?_,λhge=> ?_⟩
 ·have hlt:j<rl.length:=by omega
  refine ixc (hr.le l1) (by decide) (by omega) (by omega) λa18 c18 y hy hrow18 hc18=> ?_;rw [N4] at hy;obtain rfl:c18=y.arr:=hc18;have et2:=dz hy;have hsn:=uB S st y (rl.take j) d;obtain ⟨fx,_⟩:=cL (st:=st) hS (rl.take j) hd;have fin:∀{G' F':PH} {u':Γ},G1.le G'->DV G' u' (dia (jh S st d (rl.take (j+1))))->St G' F' (pt b8 (Y4 zD 31)::pt b4 (Y4 u' 31)::As)->sQ N r s st b4 b8 (j:Int) (λx F'=>∃G',lj (dia (jh S st d rl)) x G'/\G.le G'/\St G' F' As) F':=λ{G' F' u'} l hu' h=>by unfold sQ;rw [aA hlt];exact next _ hlt ⟨G',u',aa l1 l,hu',h⟩
  refine ⟨y.t,aQ (aU h.le hrow18) rfl,λht=> ?_,λht=> ?_⟩
  ·have ht:y.t=Y6:=by simpa using ht
   rw [Υ (by rw [ht];decide)] at hsn;obtain ⟨y0,y1⟩:=hsy y (W7 hy) ht;refine ⟨u,hu.size,ac (h.ptAt (i:=1) rfl),?_⟩;refine ixc (hr.le l1) (by decide) (by omega) (by omega) λa26 c26 y' hy' hrow26 hc26=> ?_;rw [N4,hy] at hy';cases hy';obtain rfl:c26=y.arr:=hc26;refine ⟨y.i,bj (aU h.le hrow26) (i:=1) rfl,?_⟩;refine hb G1 F3 [_,_] l1 h y.i y0 y1 _ λa29 c29 hrow29 hd29=>⟨c29,hd29.size,hrow29,?_⟩;refine h.run (ik hk fx (hS y.i) hu hd29) λ_ G2 F4 hr2 l2 h=> ?_;obtain ⟨w,rfl,hw⟩:=hr2;refine ⟨w,rfl,bj (aU (aa l2 h.le) hrow26) (i:=1) rfl,?_⟩;refine h.put1 (w':=w) hw.size hu.size hw.st λF5 h=>fin l2 ?_ h;rw [et2,hsn];exact hw
  ·have ht:y.t=Y8:=by simpa using ht
   rw [Χ ht] at hsn;refine ⟨λhst=> ?_,λhst=> ?_⟩
   ·refine (h.call (bH Y6)).mono ?_;rintro _ F4 ⟨G2,⟨w,rfl,hw,l2⟩,h⟩;refine ⟨w,rfl,?_⟩;refine h.put1 (w':=w) hw.size hu.size hw.st λF5 h=>fin l2 ?_ h;rw [et2,hsn,Χ hst];exact hw
   ·refine fin (am _) ?_ h;rw [et2,hsn,Υ (by rw [hst];decide)];exact hu
 ·have e:j=rl.length:=by omega
  subst e;rw [Xg] at hu;unfold Iu;refine ⟨u,hu.size,ac (h.ptAt (i:=1) rfl),?_⟩;refine h.put0 (w':=u) hu.size rfl hu.st λF5 h=> ?_;exact ⟨u,hu.size,ac (h.ptAt (i:=0) rfl),G1,⟨u,rfl,hu⟩,l1,h.tail.tail⟩
end
section
variable {κ:Type} [DecidableEq κ] {k:Nat}
theorem De {S:κ->Tr} {x:κ} {d:Tr} {keys:List κ} (hS:Sxs k S) (hd:Sx k d) (hx:x∈keys):mu k keys (bo S x d)<=mu k keys S/\(bo S x d≠S->mu k keys (bo S x d)<mu k keys S):=by
 obtain ⟨h1,h2⟩:=xv hS (cO hS hd) (d6 (n:=x) hS hd) keys;refine ⟨h1,λhne=>h2 x hx λe=>hne ?_⟩;funext i;by_cases hi:i=x
 ·rw [hi,<- e]
 ·unfold bo dx;rw [Υ hi]
theorem Df {S:κ->Tr} {x:κ} {d:Tr} (hS:Sxs k S) (hd:Sx k d) (e:bo S x d=S) (c:Cf) (hc:d.ev c=Y8):(S x).ev c=Y8:=by have:=dZ hS hd (n:=x) x c;rw [e,hc,ζ rfl] at this;rw [this];simp
end
section
variable {k:Nat} {l:List Pr} {P:Nat->Tr} {st:Bool}
def ClL (st:Bool) (P:Nat->Tr) (S:Int->Tr) (j:Nat) (x:Pr):Prop:=∀c,(jh S st (P j) x.right).ev c=Y8->(S x.left).ev c=Y8
theorem KC {S:Int->Tr} (hS:Sxs k S) (hP:∀i,Sx k (P i)) (hc:∀(j:Nat) (x:Pr),l[j]? =Y3 x->ClL st P S j x) {c:Cf} {n:Int} (h:Der l P st c n):(S n).ev c=Y8:=by
 induction h with
 |mk i x hi hp ht _ ih=>refine hc i x hi c ?_;rw [(cL hS x.right (hP i)).2];exact ⟨hp,λs hs=>⟨ht s hs,ih s hs⟩⟩
theorem HZ {S:Int->Tr} (hS:Sxs k S) (hP:∀i,Sx k (P i)) (h:Snd l P st S) {i:Nat} {x:Pr} (hx:l[i]? =Y3 x):Snd l P st (bo S x.left (jh S st (P i) x.right)):=λn c hc=>by
 obtain ⟨f1,f2⟩:=cL (st:=st) hS x.right (hP i);rw [dZ hS f1] at hc;rcases X9.1 hc with hc|hc
 ·exact h n c hc
 ·obtain ⟨e,hc⟩:=Xq.1 hc;rw [ε e];obtain ⟨h1,h2⟩:=(f2 c).1 hc;exact .mk i x hx h1 (λs hs=>(h2 s hs).1) λs hs ht=>h _ _ ((h2 s hs).2 ht)
end
section
variable {G F:PH} {As:List (Ψ)} {g:Gr} {k:Nat} {st:Bool}
theorem oJ {v:Γ} (hg:GV G v g) (hk:OkK g k) (h:St G F As):
  ν 56 #[Y9 v,Za st] F λr F'=>∃G' s S,r=Y7 s/\G.le G'/\s.len=g.YW.length/\bX k g.YV (aD g) st S/\St G' F' (mD G' s (bK S g.YW.length)::As):=by
 obtain ⟨o1,o2,o3,o4⟩:=dp hk.ok;have hk6:=hk.le;have hgv:=hg;obtain ⟨c,n,t,s0,p,l,f,rfl,hs⟩:=hg;have es:=hs.s.len;have ep:=hs.p.len;refine WN ?_;unfold US;refine h.newG λb2 G1 F1 l1 q2 _ h=>⟨s0,ld (h.le _ _ q2) rfl,?_⟩;dsimp only;rw [es];refine (uC (by omega) h).mono ?_;rintro _ F2 ⟨G2,s,rfl,l2,hsl,h⟩;refine ⟨s,rfl,?_⟩;have l12:=aa l1 l2;have hkeys:∀(i:Nat) (x:Pr),g.YV[i]? =Y3 x->x.left∈g.YV.map Pr.left:=λi x hx=>Xi.2 ⟨x,W7 hx,rfl⟩;generalize g.YV.map Pr.left=keys at hkeys
 refine ⟨λm ch F'=>∃(G':PH) (S:Int->Tr),G2.le G'/\Sxs k S/\Snd g.YV (aD g) st S/\(ch=Y6->∀(j:Nat) (x:Pr),g.YV[j]? =Y3 x->ClL st (aD g) S j x)/\m=mu k keys S+(if ch=Y8 then 1 else 0)/\
  St G' F' (mD G' s (bK S g.YW.length)::As),mu k keys (λ_=>Y0 Y6)+1,⟨G2,_,am _,λ_=>Sx.Y0 k Y6,λn c hc=>(by cases hc),λhc=>(by cases hc),rfl,h⟩,?_⟩
 rintro _ ch F3 ⟨G3,S,l3,hS,hSn,hCl,rfl,h⟩;have l13:=aa l2 l3;have l03:=aa l12 l3;unfold Is;refine ⟨λhch=> ?_,λhch=> ?_⟩
 ·rw [Χ hch]
  refine ⟨λm2 ch2 q F'=>∃(pn:Nat) (G':PH) (S':Int->Tr),q=pn/\pn<=g.YV.length/\m2=g.YV.length - pn/\G3.le G'/\Sxs k S'/\Snd g.YV (aD g) st S'/\mu k keys S'<=mu k keys S/\(ch2=Y8->mu k keys S'<mu k keys S)/\(ch2=Y6->∀(j:Nat) (x:Pr),j<pn->g.YV[j]? =Y3 x->ClL st (aD g) S' j x)/\
   St G' F' (mD G' s (bK S' g.YW.length)::As),g.YV.length,⟨0,G3,S,rfl,Yz _,rfl,am _,hS,hSn,W8 _,λh=>(by cases h),λ_ j x hj=>(by omega),h⟩,?_⟩
  rintro _ ch2 _ F4 ⟨pn,G4,S',rfl,hpn,rfl,l4,hS',hSn',hmu,hmu2,hCl',h⟩;have l14:=aa l13 l4;have l04:=aa l03 l4;have q24:=l14 _ _ q2;unfold Ir;refine ⟨p,ld (h.le _ _ q24) rfl,λhlt=> ?_,λhge=> ?_⟩
  ·have hlt:pn<g.YV.length:=by omega
   refine ⟨_,rfl,ac (h.le _ _ q24),p,ld (h.le _ _ q24) rfl,?_⟩;refine ixc (hs.p.le l04) (by decide) (by omega) (by omega) λa28 c28 x hx hrow28 hc28=> ?_;rw [N4] at hx;have hxm:=W7 hx;obtain ⟨_,_,⟨hl0,hl1',_⟩,hsy⟩:=hk.prod hxm;have hl1:=hl1' rfl;obtain ⟨r,n8,l8,rfl,hr,_⟩:=hc28;have hxl:=o4 x hxm;refine ⟨r,bj (aU h.le hrow28) (i:=2) rfl,?_⟩;have hdx:=(cL (st:=st) hS' x.right (hk.prs pn)).1;have hsyn:∀y∈x.right,y.t=Y6->0<=y.i/\y.i<(g.YW.length:Nat):=λy hy ht=>⟨(hsy y hy).1,(hsy y hy).2.1 ht⟩;have fin:∀{G' F':PH} {w:Γ} {b8:Nat},G4.le G'->DV G' w (dia (jh S' st (aD g pn) x.right))->St G' F' (pt b8 (Y4 zD 31)::mD G4 s (bK S' g.YW.length)::As)->
     au F' (Zc b8 0 Y5) 2 w λF2=>sP (λy F=>∃m',m'<mu k keys S+1/\(λ(m:Nat) (ch:Bool) (F':PH)=>∃(G':PH) (S:Int->Tr),G2.le G'/\Sxs k S/\Snd g.YV (aD g) st S/\(ch=Y6->∀(j:Nat) (x:Pr),g.YV[j]? =Y3 x->ClL st (aD g) S j x)/\m=mu k keys S+(if ch=Y8 then 1 else 0)/\
      St G' F' (mD G' s (bK S g.YW.length)::As)) m' y F) (λy0 y1 F=>∃m',m'<g.YV.length - pn/\(λ(m2:Nat) (ch2:Bool) (q:Int) (F':PH)=>∃(pn:Nat) (G':PH) (S':Int->Tr),q=pn/\pn<=g.YV.length/\m2=g.YV.length - pn/\G3.le G'/\Sxs k S'/\Snd g.YV (aD g) st S'/\mu k keys S'<=mu k keys S/\(ch2=Y8->mu k keys S'<mu k keys S)/\(ch2=Y6->∀(j:Nat) (x:Pr),j<pn->g.YV[j]? =Y3 x->ClL st (aD g) S' j x)/\
      St G' F' (mD G' s (bK S' g.YW.length)::As)) m' y0 y1 F) st b2 s ch2 (pn:Int) (Y3 (Zc b8 0 Y5)) (λr F'=>∃G' s S,r=Y7 s/\G.le G'/\s.len=g.YW.length/\bX k g.YV (aD g) st S/\St G' F' (mD G' s (bK S g.YW.length)::As)) F2:=λ{G' F' w b8} l5 hw h=>by
    refine h.put0 hw.size rfl hw.st λF6 h=> ?_;unfold sP;have q25:=l5 _ _ q24;refine ⟨p,ld (h.le _ _ q25) rfl,?_⟩;refine ixc (hs.p.le (aa l04 l5)) (by decide) (by omega) (by omega) λa38 c38 x' hx' hrow38 hc38=> ?_;rw [N4,hx] at hx';cases hx';obtain ⟨r,n8,l8,rfl,_⟩:=hc38;refine ⟨x.left,bj (aU h.le hrow38) (i:=1) rfl,_,rfl,w,hw.size,ac (h.ptAt (i:=0) rfl),?_⟩;refine (sK hk6 hS' hdx hw hl0 hl1 l5 h.tail).mono ?_;rintro _ F7 ⟨G7,ch3,rfl,hch3,l7,h⟩;obtain ⟨m1,m2⟩:=De hS' hdx (hkeys pn x hx);refine ⟨ch3,rfl,ld (h.le _ _ (l7 _ _ q25)) rfl,?_⟩
    have go:∀ch4:Bool,(ch4=Y8↔ch2=Y8\/ch3=Y8)->∃m',m'<g.YV.length - pn/\(∃(pn':Nat) (G':PH) (S'':Int->Tr),(i64.wrap ((pn:Int)+1))=pn'/\pn'<=g.YV.length/\m'=g.YV.length - pn'/\G3.le G'/\Sxs k S''/\Snd g.YV (aD g) st S''/\mu k keys S''<=mu k keys S/\(ch4=Y8->mu k keys S''<mu k keys S)/\(ch4=Y6->∀(j:Nat) (x:Pr),j<pn'->g.YV[j]? =Y3 x->ClL st (aD g) S'' j x)/\
      St G' F7 (mD G' s (bK S'' g.YW.length)::As)):=λch4 h4=>by
     rw [aA hlt];refine ⟨g.YV.length - (pn+1),by omega,pn+1,G7,_,rfl,by omega,rfl,aa l4 (aa l5 l7),cO hS' hdx,HZ hS' hk.prs hSn' hx,by omega,λh=> ?_,λh j y hj hy=> ?_,h⟩
     ·rcases h4.1 h with h|h
      ·have:=hmu2 h;omega
      ·have:=m2 (hch3.1 h);omega
     ·have e2:ch2=Y6:=by cases e:ch2 with
       |false=>rfl
       |true=>rw [h4.2 (.inl e)] at h;cases h
      have e3:bo S' x.left (jh S' st (aD g pn) x.right)=S':=Classical.not_not.1 λhne=>by rw [h4.2 (.inr (hch3.2 hne))] at h;cases h
      rw [e3];by_cases ej:j=pn
      ·subst ej;rw [hx] at hy;cases hy;exact Df hS' hdx e3
      ·exact hCl' e2 j y (by omega) hy
    unfold A2;refine ⟨λhc=>go Y8 ⟨λ_=> .inl hc,λ_=>rfl⟩,λhc=>go ch3 ⟨.inr,λh=>h.resolve_left λh'=>by rw [h'] at hc;cases hc⟩⟩
   have mdl:∀{G' F':PH} {Bs:List (Ψ)},St G' F' (mD G4 s (bK S' g.YW.length)::As)->St G' F' (mD G4 s (bK S' g.YW.length)::As):=λh=>h;refine ⟨?_,?_⟩
   ·refine h.run (gQ (hgv.le l04) hk hlt) λ_ G5 F5 hr5 l5 h=> ?_;obtain ⟨y,rfl,hy⟩:=hr5;have q25:=l5 _ _ q24;refine ⟨y,rfl,bj (aU (aa l5 h.le) hrow28) (i:=2) rfl,ld (h.le _ _ q25) rfl,?_,?_⟩
    ·refine (fZ (n:=g.YW.length) (S:=S') (st:=st) hk6 hS' (hk.prs pn) hy (hr.le l5) (by omega) hsyn (Rdb.own (j:=0) rfl l5) h).mono ?_;rintro _ F6 ⟨G6,⟨w,rfl,hw⟩,l6,h⟩;refine ⟨w,rfl,ld (h.le _ _ (l6 _ _ q25)) rfl,?_⟩;exact h.new λb8 F7 h=>fin (aa l5 l6) hw h
    ·refine h.new λb8 F6 h=> ?_;refine (fZ (n:=g.YW.length) (S:=S') (st:=st) hk6 hS' (hk.prs pn) hy (hr.le l5) (by omega) hsyn (Rdb.own (j:=1) rfl l5) h).mono ?_;rintro _ F7 ⟨G6,⟨w,rfl,hw⟩,l6,h⟩;refine ⟨w,rfl,ld (h.le _ _ (l6 _ _ q25)) rfl,?_⟩;exact fin (aa l5 l6) hw h
   ·refine h.new λb8 F5 h=> ?_;refine h.run (gQ (hgv.le l04) hk hlt) λ_ G5 F6 hr5 l5 h=> ?_;obtain ⟨y,rfl,hy⟩:=hr5;have q25:=l5 _ _ q24;refine ⟨y,rfl,bj (aU (aa l5 h.le) hrow28) (i:=2) rfl,ld (h.le _ _ q25) rfl,?_⟩;refine (fZ (n:=g.YW.length) (S:=S') (st:=st) hk6 hS' (hk.prs pn) hy (hr.le l5) (by omega) hsyn (Rdb.own (j:=1) rfl l5) h).mono ?_;rintro _ F7 ⟨G6,⟨w,rfl,hw⟩,l6,h⟩;refine ⟨w,rfl,ld (h.le _ _ (l6 _ _ q25)) rfl,?_⟩;exact fin (aa l5 l6) hw h
  ·have e:pn=g.YV.length:=by omega
   subst e;refine ⟨mu k keys S'+(if ch2=Y8 then 1 else 0),?_,G4,S',aa l3 l4,hS',hSn',λhc j x hx=>hCl' hc j x (N6.1 hx).1 hx,rfl,h⟩;by_cases hc:ch2=Y8
   ·have:=hmu2 hc;rw [Χ hc];omega
   ·rw [Υ hc];omega
 ·unfold Iq;exact ⟨G3,s,S,rfl,l03,hsl,⟨hS,λn c=>⟨hSn n c,λd=>KC hS hk.prs (hCl hch) d⟩⟩,h⟩
end
section
variable {G F:PH} {As:List (Ψ)}
theorem St.pull {A:Ψ} (h:St G F As) (j:Nat) (hj:As[j]? =Y3 A):St G F (A::As.eraseIdx j):=by
 have hl:j<As.length:=(N6.1 hj).1;have hle:(As.eraseIdx j).length=As.length - 1:=List.length_eraseIdx_of_lt hl;refine h.pick (λi=>if i=0 then j else if i<=j then i - 1 else i) (λa b ha hb e=> ?_) (λi hi=> ?_)
 ·repeat' split at e
  all_goals omega
 ·cases i with
  |zero=>exact hj
  |succ i=>
   rw [Υ (by omega),XB,List.getElem?_eraseIdx,Nat.add_sub_cancel];by_cases hij:i<j
   ·rw [Χ (by omega),Χ hij]
   ·rw [Υ (by omega),Υ hij]
theorem St.unpull {A:Ψ} {j:Nat} (hl:j<As.length) (h:St G F (A::As.eraseIdx j)):St G F (As.set j A):=by
 have hle:(As.eraseIdx j).length=As.length - 1:=List.length_eraseIdx_of_lt hl;refine h.pick (λi=>if i=j then 0 else if i<j then i+1 else i) (λa b ha hb e=> ?_) (λi hi=> ?_)
 ·repeat' split at e
  all_goals omega
 ·rw [YH] at hi;by_cases e:i=j
  ·subst e;rw [Χ rfl,X0 hl];rfl
  ·rw [Υ e,Ys (Ne.symm e)];by_cases hij:i<j
   ·rw [Χ hij,XB,List.getElem?_eraseIdx,Χ hij]
   ·rw [Υ hij];obtain ⟨m,rfl⟩:∃m,i=m+1:=⟨i - 1,by omega⟩;rw [XB,List.getElem?_eraseIdx,Υ (by omega)]
theorem St.impAll {Bs:List (Ψ)} (h:St G F As) (hl:Bs.length=As.length) (f:∀(i:Nat) A B,As[i]? =Y3 A->Bs[i]? =Y3 B->∀H,A H->B H):St G F Bs:=by
 obtain ⟨Hs,h1,h2⟩:=h.ex;refine ⟨h.le,Hs,λi B hB=> ?_,λi j hi hj=>h2 i j (by omega) (by omega)⟩;have hi:i<As.length:=by rw [<- hl];exact (N6.1 hB).1
 obtain ⟨a1,a2,a3⟩:=h1 i _ (N5 hi);exact ⟨f i _ B (N5 hi) hB _ a1,a2,a3⟩
def mM (G0:PH) (sl:Nat->Sl) (S:Int×Int->Tr) (nt:Nat):Nat->List (Ψ)
 |0=>[]
 |n+1=>mD G0 (sl n) (bK (λj=>S ((n:Int),j)) nt)::mM G0 sl S nt n
section
variable {G0:PH} {sl:Nat->Sl} {S:Int×Int->Tr} {nt:Nat}
theorem dQ:∀n,(mM G0 sl S nt n).length=n
 |0=>rfl
 |n+1=>by unfold mM;rw [Xl,dQ n]
theorem H0:∀{n i:Nat},i<n->(mM G0 sl S nt n)[n - 1 - i]? =Y3 (mD G0 (sl i) (bK (λj=>S ((i:Int),j)) nt))
 |n+1,i,h=>by
  unfold mM;by_cases e:i=n
  ·subst e;rw [show i+1 - 1 - i=0 by omega];rfl
  ·rw [show n+1 - 1 - i=(n - 1 - i)+1 by omega,XB];exact H0 (by omega)
theorem gH {n i:Nat} (h:i<n):(mM G0 sl S nt n++As)[n - 1 - i]? =Y3 (mD G0 (sl i) (bK (λj=>S ((i:Int),j)) nt)):=by rw [Xh (by rw [dQ];omega)];exact H0 h
theorem yw {sl':Nat->Sl}:∀{n:Nat},(∀i,i<n->sl i=sl' i)->mM G0 sl S nt n=mM G0 sl' S nt n
 |0,_=>rfl
 |n+1,h=>by unfold mM;rw [h n (by omega),yw λi hi=>h i (by omega)]
theorem Ia {G1:PH} {n:Nat} (l:G0.le G1) (h:St G F (mM G0 sl S nt n++As)):St G F (mM G1 sl S nt n++As):=by
 refine h.impAll (by rw [Xa,Xa,dQ,dQ]) λi A B hA hB H hH=> ?_;by_cases hi:i<n
 ·have e1:=gH (G0:=G0) (sl:=sl) (S:=S) (nt:=nt) (As:=As) (i:=n - 1 - i) (n:=n) (by omega);have e2:=gH (G0:=G1) (sl:=sl) (S:=S) (nt:=nt) (As:=As) (i:=n - 1 - i) (n:=n) (by omega);rw [show n - 1 - (n - 1 - i)=i by omega] at e1 e2;rw [e1] at hA;rw [e2] at hB;cases hA;cases hB;exact hH.le l
 ·rw [Xn (by rw [dQ];omega),dQ] at hA hB;rw [hA] at hB;cases hB;exact hH
theorem sL {d:Tr} {i i' j:Int}:(λj'=>bo S (i,j) d (i',j'))=if i'=i then bo (λj'=>S (i,j')) j d else λj'=>S (i',j'):=by
 funext j';by_cases e:i'=i
 ·subst e;rw [Χ rfl];unfold bo dx;by_cases e2:j'=j
  ·rw [Χ (by rw [e2]),Χ e2]
  ·rw [Υ (λh=>e2 (Prod.ext_iff.1 h).2),Υ e2]
 ·rw [Υ e];unfold bo dx;rw [Υ (λh=>e (Prod.ext_iff.1 h).1)]
theorem yx {k n i:Nat} {j:Int} {d:Tr} {v:Γ} (hk:k<=6) (hS:Sxs k S) (hd:Sx k d) (hv:DV G v (dia d)) (hi:i<n) (h0:0<=j) (h1:j<nt) (l0:G0.le G) (h:St G F (mM G0 sl S nt n++As)):
  ν 61 #[(sl i).v,vi j,Y9 v] F λr F'=>∃G' ch,r=Za ch/\(ch=Y8↔bo S ((i:Int),j) d≠S)/\G.le G'/\St G' F' (mM G' sl (bo S ((i:Int),j) d) nt n++As):=by
 have hlen:n - 1 - i<(mM G0 sl S nt n++As).length:=by rw [Xa,dQ];omega
 refine (sK (S:=λj'=>S ((i:Int),j')) hk (λ_=>hS _) hd hv h0 h1 l0 (h.pull (n - 1 - i) (gH hi))).mono ?_;rintro r F' ⟨G',ch,rfl,hch,l,h⟩;have hrow:bo (λj'=>S ((i:Int),j')) j d=λj'=>bo S ((i:Int),j) d ((i:Int),j'):=by rw [sL,Χ rfl]
 refine ⟨G',ch,rfl,hch.trans ⟨λh e=>h ?_,λh e=>h ?_⟩,l,?_⟩
 ·rw [hrow,e]
 ·funext ⟨i',j'⟩;have:=congrFun (sL (S:=S) (d:=d) (i:=(i:Int)) (i':=i') (j:=j)) j';refine this.trans ?_;by_cases e2:i'=(i:Int)
  ·rw [Χ e2,e,e2]
  ·rw [Υ e2]
 ·refine (St.unpull hlen h).impAll (by rw [YH,Xa,Xa,dQ,dQ]) λm A B hA hB H hH=> ?_;by_cases hm:m<n
  ·have e2:=gH (G0:=G') (sl:=sl) (S:=bo S ((i:Int),j) d) (nt:=nt) (As:=As) (i:=n - 1 - m) (n:=n) (by omega);rw [show n - 1 - (n - 1 - m)=m by omega] at e2;rw [e2] at hB;cases hB;by_cases e:m=n - 1 - i
   ·subst e;rw [X0 hlen] at hA;cases hA;rw [show n - 1 - (n - 1 - i)=i by omega];rw [<- hrow];exact hH
   ·rw [Ys (Ne.symm e)] at hA;have e1:=gH (G0:=G0) (sl:=sl) (S:=S) (nt:=nt) (As:=As) (i:=n - 1 - m) (n:=n) (by omega);rw [show n - 1 - (n - 1 - m)=m by omega] at e1;rw [e1] at hA;cases hA;rw [sL,Υ (by omega)];exact hH.le (aa l0 l)
  ·rw [Ys (by omega),Xn (by rw [dQ];omega),dQ] at hA;rw [Xn (by rw [dQ];omega),dQ] at hB;rw [hA] at hB;cases hB;exact hH
def slL (sl:Nat->Sl) (n:Nat):Ξ:=(List.range n).map λi=>Y7 (sl i)
theorem Pv {n i:Nat} (h:i<n):(slL sl n)[i]? =Y3 (Y7 (sl i)):=by unfold slL;rw [Xj,XF h];rfl
theorem Ib {s:Sl} {n:Nat}:slL (λm=>if m=n then s else sl m) (n+1)=slL sl n++[Y7 s]:=by unfold slL;rw [Yw,Xt,List.map_singleton];dsimp only;rw [if_pos rfl];congr 1;refine Yx λi hi=> ?_;rw [if_neg (by have:=XN.1 hi;omega)]
theorem Pw {s:Sl} {n:Nat}:mM G0 (λm=>if m=n then s else sl m) S nt (n+1)=mD G0 s (bK (λj=>S ((n:Int),j)) nt)::mM G0 sl S nt n:=by show mD G0 (if n=n then s else sl n) _::_=_;rw [Χ rfl,yw (sl:=λm=>if m=n then s else sl m) (sl':=sl) λi hi=>Υ (by omega)]
end
end
section
variable {G F:PH} {As:List (Ψ)} {g:Gr} {k:Nat}
theorem Ic {v:Γ} (hg:GV F v g) (hz:Sml g) (hk:OkG g):ν 55 #[Y9 v] F λr F'=>r=vi 0/\F.le F':=by have:=yJ hg hz;rw [pg.2 hk] at this;exact this
end
section
section
end
end
section
end
section
end
section
end
theorem uD {S:Int×Int->Tr} {nt n i:Nat} (h1:i<n):(io S nt n)[i]? =Y3 (nS S nt i):=by unfold io;rw [Xj,XF h1];rfl
theorem KD {g:Gr} {k:Nat} (hk:OkK g k) {c:Cf} {n t:Int} (f:Fst g.YV (aD g) c n t):0<=t/\t<g.YX.length:=by obtain ⟨x,hx,s,hs,hst,rfl⟩:=f.tok_mem;obtain ⟨h0,_,h4⟩:=(hk.prod hx).2.2.2 s hs;obtain ⟨tk,htk,_⟩:=h4 hst;have hlt:=(N6.1 htk).1;exact ⟨h0,by omega⟩
section
end
section
end
section
variable {g:Gr} {k:Nat} {N D:Int->Tr}
def bgT (g:Gr) (D:Int->Tr) (p:Nat) (x:Pr):Tr:=jh D Y6 (aD g p) x.right
def bfT (N:Int->Tr) (d:Tr) (x:Pr) (i:Nat):Tr:=jh N Y8 d (x.right.take i)
def snT (S:Int×Int->Tr) (s:Sy) (t:Int):Tr:=if s.t=Y8 then Y0 (decide (s.i=t)) else S (s.i,t)
theorem NQ (hk:OkK g k) (hN:bX k g.YV (aD g) Y8 N) (hD:bX k g.YV (aD g) Y6 D) {p i:Nat} {x:Pr}:Sx k (bfT N (bgT g D p x) x i)/\∀c,(bfT N (bgT g D p x) x i).ev c=Y8↔(aD g p).ev c=Y8/\(∀y∈x.right,y.t=Y6->Der g.YV (aD g) Y6 c y.i)/\Bef g.YV (aD g) c x.right i:=by
 obtain ⟨f1,f2⟩:=cL (st:=Y6) hD.sx x.right (hk.prs p);obtain ⟨g1,g2⟩:=cL (st:=Y8) hN.sx (x.right.take i) f1;refine ⟨g1,λc=>(g2 c).trans ?_⟩;rw [f2,and_assoc];refine and_congr_right λ_=>and_congr ⟨λh y hy ht=>(hD.iff _ _).1 ((h y hy).2 ht),λh y hy=>⟨λ_=>rfl,λht=>(hD.iff _ _).2 (h y hy ht)⟩⟩ ⟨λh m y hm hy=> ?_,λh y hy=> ?_⟩
 ·obtain ⟨h1,h2⟩:=h y (W7 (by rw [XG hm];exact hy));have ht:y.t=Y6:=by cases e:y.t with
   |false=>rfl
   |true=>cases h1 e
  exact ⟨ht,(hN.iff _ _).1 (h2 ht)⟩
 ·obtain ⟨m,hm⟩:=List.mem_iff_getElem?.1 hy;have hlt:=(N6.1 hm).1;rw [Xe] at hlt;rw [XG (by omega)] at hm;obtain ⟨h1,h2⟩:=h m y (by omega) hm;exact ⟨λht=>(by rw [h1] at ht;cases ht),λ_=>(hN.iff _ _).2 h2⟩
def FsS (g:Gr) (S:Int×Int->Tr):Prop:=∀n t c,(S (n,t)).ev c=Y8->Fst g.YV (aD g) c n t
def fdT (g:Gr) (N D:Int->Tr) (S:Int×Int->Tr) (p i:Nat) (x:Pr) (s:Sy) (t:Int):Tr:=ap2 aY (bfT N (bgT g D p x) x i) (snT S s t)
theorem yy (hk:OkK g k) (hN:bX k g.YV (aD g) Y8 N) (hD:bX k g.YV (aD g) Y6 D) {S:Int×Int->Tr} (hS:Sxs k S) {p i:Nat} {x:Pr} {s:Sy} {t:Int}:Sx k (fdT g N D S p i x s t)/\Sx k (snT S s t)/\∀c,(fdT g N D S p i x s t).ev c=Y8↔((aD g p).ev c=Y8/\(∀y∈x.right,y.t=Y6->Der g.YV (aD g) Y6 c y.i)/\Bef g.YV (aD g) c x.right i)/\(s.t=Y8/\s.i=t\/s.t=Y6/\(S (s.i,t)).ev c=Y8):=by
 obtain ⟨f1,f2⟩:=NQ hk hN hD (p:=p) (i:=i) (x:=x);have f3:Sx k (snT S s t):=by
  unfold snT;split
  ·exact Sx.Y0 k _
  ·exact hS _
 refine ⟨f1.ap2 f3,f3,λc=> ?_⟩;unfold fdT;rw [(bq f1.1 f3.1).2];show ((bfT N (bgT g D p x) x i).ev c && (snT S s t).ev c)=Y8↔_;rw [Xq,f2];refine and_congr_right λ_=> ?_;unfold snT;cases ht:s.t with
 |true=>
  rw [Χ rfl];constructor
  ·intro h;exact .inl ⟨rfl,ε h⟩
  ·rintro (⟨_,h⟩|⟨h,_⟩)
   ·exact ζ h
   ·cases h
 |false=>
  rw [Υ (by decide)];constructor
  ·intro h;exact .inr ⟨rfl,h⟩
  ·rintro (⟨h,_⟩|⟨_,h⟩)
   ·cases h
   ·exact h
theorem KE (hk:OkK g k) (hN:bX k g.YV (aD g) Y8 N) (hD:bX k g.YV (aD g) Y6 D) {S:Int×Int->Tr} (hS:Sxs k S) (h:FsS g S) {p i:Nat} {x:Pr} {s:Sy} {t:Int} (hx:g.YV[p]? =Y3 x) (hs:x.right[i]? =Y3 s):FsS g (bo S (x.left,t) (fdT g N D S p i x s t)):=λn u c hc=>by
 obtain ⟨f1,_,f2⟩:=yy hk hN hD hS (p:=p) (i:=i) (x:=x) (s:=s) (t:=t);rw [dZ hS f1] at hc;rcases X9.1 hc with hc|hc
 ·exact h n u c hc
 ·obtain ⟨e,hc⟩:=Xq.1 hc;obtain ⟨e1,e2⟩:=Prod.ext_iff.1 (ε e);have e1:n=x.left:=e1;have e2:u=t:=e2;rw [e1,e2];obtain ⟨⟨h1,h2,h3⟩,h4|h4⟩:=(f2 c).1 hc
  ·rw [<- h4.2];exact .tok p i x s hx h1 h2 hs h3 h4.1
  ·exact .non p i x s t hx h1 h2 hs h3 h4.1 (h _ _ _ h4.2)
def ClF (g:Gr) (N D:Int->Tr) (S:Int×Int->Tr) (p i:Nat) (x:Pr) (s:Sy) (t:Int):Prop:=∀c,(fdT g N D S p i x s t).ev c=Y8->(S (x.left,t)).ev c=Y8
theorem KG (hk:OkK g k) (hN:bX k g.YV (aD g) Y8 N) (hD:bX k g.YV (aD g) Y6 D) {S:Int×Int->Tr} (hS:Sxs k S) (hc:∀(p i:Nat) (x:Pr) (s:Sy) (t:Nat),g.YV[p]? =Y3 x->x.right[i]? =Y3 s->t<g.YX.length->ClF g N D S p i x s t) {c:Cf} {n t:Int} (h:Fst g.YV (aD g) c n t):(S (n,t)).ev c=Y8:=by
 have ht:=KD hk h;obtain ⟨m,rfl⟩:∃m:Nat,t=m:=⟨t.toNat,by omega⟩;have hm:m<g.YX.length:=by omega
 clear ht;generalize hu:(m:Int)=u at h;induction h with
 |tok i j x s hi hp hd hj hb hst=>have:=hc i j x s m hi hj hm c (((yy hk hN hD hS).2.2 c).2 ⟨⟨hp,hd,hb⟩,.inl ⟨hst,by rw [hu]⟩⟩);rwa [hu] at this
 |non i j x s t hi hp hd hj hb hst _ ih=>have:=hc i j x s m hi hj hm c (((yy hk hN hD hS).2.2 c).2 ⟨⟨hp,hd,hb⟩,.inr ⟨hst,by rw [hu];exact ih hu⟩⟩);rwa [hu] at this
end
section
variable {g:Gr} {k:Nat} {N D:Int->Tr}
structure FiI (k:Nat) (g:Gr) (N D:Int->Tr) (keys:List (Int×Int)) (S0 S:Int×Int->Tr) (p:Nat) (x:Pr) (i t:Nat) (ch:Bool):Prop where
 sx:Sxs k S
 snd:FsS g S
 mu:mu k keys S<=mu k keys S0
 lt:ch=Y8->Go.Proofs.YtcemhghkipgdiaaGreatDoor.mu k keys S<Go.Proofs.YtcemhghkipgdiaaGreatDoor.mu k keys S0
 no:ch=Y6->S=S0/\∀(i':Nat) (s:Sy) (t':Nat),x.right[i']? =Y3 s->t'<g.YX.length->(i'<i\/(i'=i/\t'<t))->ClF g N D S0 p i' x s t'
theorem FiI.next {keys:List (Int×Int)} {S0 S:Int×Int->Tr} {p i t:Nat} {x:Pr} {s:Sy} {ch ch2 ch3:Bool} (hk:OkK g k) (hN:bX k g.YV (aD g) Y8 N) (hD:bX k g.YV (aD g) Y6 D) (h:FiI k g N D keys S0 S p x i t ch) (hx:g.YV[p]? =Y3 x) (hs:x.right[i]? =Y3 s) (hkey:(x.left,(t:Int))∈keys)
  (h2:ch2=Y8↔bo S (x.left,(t:Int)) (fdT g N D S p i x s t)≠S) (h3:ch3=Y8↔ch=Y8\/ch2=Y8):FiI k g N D keys S0 (bo S (x.left,(t:Int)) (fdT g N D S p i x s t)) p x i (t+1) ch3:=by
 obtain ⟨f1,_,_⟩:=yy hk hN hD h.sx (p:=p) (i:=i) (x:=x) (s:=s) (t:=(t:Int));obtain ⟨m1,m2⟩:=De h.sx f1 hkey;refine ⟨cO h.sx f1,KE hk hN hD h.sx h.snd hx hs,X4 m1 h.mu,λhc=> ?_,λhc=> ?_⟩
 ·rcases h3.1 hc with hc|hc
  ·have:=h.lt hc;omega
  ·have:=m2 (h2.1 hc);have:=h.mu;omega
 ·have e1:ch=Y6:=by cases e:ch with
   |false=>rfl
   |true=>rw [h3.2 (.inl e)] at hc;cases hc
  have e2:bo S (x.left,(t:Int)) (fdT g N D S p i x s t)=S:=Classical.not_not.1 λhne=>by rw [h3.2 (.inr (h2.2 hne))] at hc;cases hc
  obtain ⟨e3,e4⟩:=h.no e1;refine ⟨by rw [e2,e3],λi' s' t' hs' ht' hlt=> ?_⟩;by_cases ho:i'<i\/(i'=i/\t'<t)
  ·exact e4 i' s' t' hs' ht' ho
  ·have e5:i'=i:=by omega
   have e6:t'=t:=by omega
   subst e5 e6;rw [hs] at hs';cases hs';intro c hc;rw [e3] at e2 f1;have hsx:Sxs k S0:=by rw [<- e3];exact h.sx
   exact Df hsx f1 e2 c hc
theorem FiI.row {keys:List (Int×Int)} {S0 S:Int×Int->Tr} {p i:Nat} {x:Pr} {ch:Bool} (h:FiI k g N D keys S0 S p x i g.YX.length ch):FiI k g N D keys S0 S p x (i+1) 0 ch:=
 ⟨h.sx,h.snd,h.mu,h.lt,λhc=>⟨(h.no hc).1,λi' s t' hs ht hlt=>(h.no hc).2 i' s t' hs ht (by omega)⟩⟩
section
variable {G F G0:PH} {As:List (Ψ)} {sl:Nat->Sl} {S:Int×Int->Tr}
theorem AQ {v w:Γ} {p:Nat} {x:Pr} {sN o:Sl} {keys:List (Int×Int)} (hg:GV G v g) (hk:OkK g k) (hN:bX k g.YV (aD g) Y8 N) (hD:bX k g.YV (aD g) Y6 D) (hx:g.YV[p]? =Y3 x) (hw:DV G w (dia (bgT g D p x))) (hNr:RL G sN (bK N g.YW.length)) (hout:RdS G o 1 (slL sl g.YW.length))
  (hkeys:∀t:Nat,t<g.YX.length->(x.left,(t:Int))∈keys) (hS:Sxs k S) (hSn:FsS g S) (l0:G0.le G) (h:St G F (mM G0 sl S g.YX.length g.YW.length++As)):
  ν 76 #[Y9 v,vi p,Y9 w,sN.v,o.v] F λr F'=>∃G' S' ch,r=Za ch/\G.le G'/\FiI k g N D keys S S' p x x.right.length 0 ch/\St G' F' (mM G' sl S' g.YX.length g.YW.length++As):=by
 obtain ⟨o1,o2,o3,o4⟩:=dp hk.ok;have hk6:=hk.le;obtain ⟨c,n,t0,s0,ps,l,f,rfl,hs⟩:=hg;have ep:=hs.p.len;have et:=hs.t.len;have hp:p<g.YV.length:=(N6.1 hx).1;have hxm:=W7 hx;obtain ⟨_,_,⟨hl0,hl1',_⟩,hsy⟩:=hk.prod hxm;have hl0:0<=x.left:=hl0;have hl1:x.left<(g.YW.length:Nat):=hl1' rfl;obtain ⟨xl,hxle⟩:=XW hl0;have hxle:x.left=(xl:Int):=hxle;have hxlt:xl<g.YW.length:=by omega
 have hxr:=o4 x hxm;refine WT ?_;unfold UX;refine h.newG λb5 G1 F1 l1 q5 _ h=>h.newG λb7 G2 F2 l2 q7 _ h=> ?_;have l12:=aa l1 l2;have q52:=l2 _ _ q5;refine ⟨ps,ld (h.le _ _ q52) rfl,?_⟩;refine ixc (hs.p.le l12) (by decide) (by omega) (by omega) λa22 c22 x' hx' hrow22 hc22=>⟨c22,Mem.len hc22,aU h.le hrow22,?_⟩;rw [N4,hx] at hx';cases hx';refine h.var (Mem.st hc22) (λb12 G3 F3 l3 q12 h=> ?_) rfl (Mem.len hc22);obtain ⟨r,n8,l8,rfl,hr,_⟩:=hc22;have l13:=aa l12 l3;have q53:=l3 _ _ q52;have q73:=l3 _ _ q7;have hr3:=hr.le l3;have er:=hr3.len;have erc:=hr3.cap;refine ⟨λm ch q F'=>∃(i:Nat) (G':PH) (S':Int×Int->Tr),q=i/\i<=x.right.length/\m=x.right.length - i/\G3.le G'/\FiI k g N D keys S S' p x i 0 ch/\St G' F' (mM G' sl S' g.YX.length g.YW.length++As),x.right.length,⟨0,G3,S,rfl,Yz _,rfl,am _,⟨hS,hSn,W8 _,λhc=>(by cases hc),λ_=>⟨rfl,λi' s t' _ _ hlt=>(by omega)⟩⟩,Ia (aa l0 l13) h⟩,?_⟩;rintro _ ch _ F4 ⟨i,G4,S4,rfl,hi,rfl,l4,hI,h⟩;have l14:=aa l13 l4;have q54:=l4 _ _ q53;have q74:=l4 _ _ q73;have q124:=l4 _ _ q12;unfold IA;refine ⟨r,ld (h.le _ _ q124) rfl,λhil=> ?_,λhig=> ?_⟩
 ·have hil:i<x.right.length:=by omega
  refine ⟨r,ld (h.le _ _ q124) rfl,?_⟩;refine ixc (hr3.le l4) (by decide) (by omega) (by omega) λa34 c34 s hsi hrow34 hc34=>⟨c34,Mem.len hc34,aU h.le hrow34,?_⟩;rw [N4] at hsi;obtain rfl:c34=s.arr:=hc34;obtain ⟨s00,s01,_⟩:=hsy s (W7 hsi);refine h.var (by simp [ak]) (λb14 G5 F5 l5 q14 h=> ?_) rfl rfl;have l45:=aa l4 l5;have l15:=aa l14 l5;have q55:=l5 _ _ q54;have q75:=l5 _ _ q74;have q125:=l5 _ _ q124;refine ⟨w,hw.size,ac (h.le _ _ q75),r,ld (h.le _ _ q125) rfl,by omega,by omega,by omega,?_⟩;have hcut:RL G5 (Sl.cut r 2 0 i r.cap) (x.right.take i):=(hr3.le l45).cut rfl (by omega);have hsyt:∀y∈x.right.take i,y.t=Y6->0<=y.i/\y.i<(g.YW.length:Nat):=λy hy ht=>by have:=hsy y (Yc hy);exact ⟨this.1,this.2.1 ht⟩
  have hbg:=(cL (st:=Y6) hD.sx x.right (hk.prs p)).1;have j3:∀{G6 F6:PH} {u:Γ} {b15:Nat},G5.le G6->G6 b15=Y3 (Y4 u 31)->DV G6 u (dia (bfT N (bgT g D p x) x i))->St G6 F6 (mM G4 sl S4 g.YX.length g.YW.length++As)->
    xd (λy0 y1 F=>∃m',m'<x.right.length - i/\(λ(m:Nat) (ch:Bool) (q:Int) (F':PH)=>∃(i:Nat) (G':PH) (S':Int×Int->Tr),q=i/\i<=x.right.length/\m=x.right.length - i/\G3.le G'/\FiI k g N D keys S S' p x i 0 ch/\St G' F' (mM G' sl S' g.YX.length g.YW.length++As)) m' y0 y1 F) sN o b5 b7 ch b12 (i:Int) b14 (Y3 (Zc b15 0 Y5)) (λr F'=>∃G' S' ch,r=Za ch/\G.le G'/\FiI k g N D keys S S' p x x.right.length 0 ch/\St G' F' (mM G' sl S' g.YX.length g.YW.length++As)) F6:=λ{G6 F6 u b15} l6 q15 hu h=>by
   unfold xd;refine ⟨λm ch q F'=>∃(t:Nat) (G':PH) (S':Int×Int->Tr),q=t/\t<=g.YX.length/\m=g.YX.length - t/\G6.le G'/\FiI k g N D keys S S' p x i t ch/\St G' F' (mM G' sl S' g.YX.length g.YW.length++As),g.YX.length,⟨0,G6,S4,rfl,Yz _,rfl,am _,hI,Ia (aa l5 l6) h⟩,?_⟩;rintro _ ch3 _ F7 ⟨t,G7,S7,rfl,ht,rfl,l7,hI7,h⟩;have l57:=aa l6 l7;have l17:=aa l15 l57;have q57:=l57 _ _ q55;have q127:=l57 _ _ q125;have q147:=l57 _ _ q14;have q157:=l7 _ _ q15;unfold Iz;refine ⟨t0,ld (h.le _ _ q57) rfl,λhtl=> ?_,λhtg=> ?_⟩
   ·have htl:t<g.YX.length:=by omega
    have hat:∀{m:Nat} {G' F':PH} {As':List (Ψ)},m<g.YW.length->G7.le G'->St G' F' As'->∃a,o.YZ=Y3 a/\0<=(m:Int)/\(m:Int)<(o.len:Int)/\F'.cell (Zb a (Int.toNat (m:Int)*1))=Y3 (Y7 (sl m)):=λ{m G' F' As'} hm l h=>
     ((hout.le (aa l17 l)).le h.le).at6 (Pv hm)
    obtain ⟨f1,f3,_⟩:=yy hk hN hD hI7.sx (p:=p) (i:=i) (x:=x) (s:=s) (t:=(t:Int));have fb:=(NQ hk hN hD (p:=p) (i:=i) (x:=x)).1;have j6:∀{G8 F8:PH} {z:Γ} {b17:Nat},G7.le G8->DV G8 z (dia (snT S7 s (t:Int)))->St G8 F8 (pt b17 (Y4 z 31)::(mM G7 sl S7 g.YX.length g.YW.length++As))->
      w9 (λy0 y1 F=>∃m',m'<x.right.length - i/\(λ(m:Nat) (ch:Bool) (q:Int) (F':PH)=>∃(i:Nat) (G':PH) (S':Int×Int->Tr),q=i/\i<=x.right.length/\m=x.right.length - i/\G3.le G'/\FiI k g N D keys S S' p x i 0 ch/\St G' F' (mM G' sl S' g.YX.length g.YW.length++As)) m' y0 y1 F) (λy0 y1 F=>∃m',m'<g.YX.length - t/\(λ(m:Nat) (ch:Bool) (q:Int) (F':PH)=>∃(t:Nat) (G':PH) (S':Int×Int->Tr),q=t/\t<=g.YX.length/\m=g.YX.length - t/\G6.le G'/\FiI k g N D keys S S' p x i t ch/\St G' F' (mM G' sl S' g.YX.length g.YW.length++As)) m' y0 y1 F) sN o b5 b7 ch3 b12 (i:Int) b14 (Y3 (Zc b15 0 Y5)) (t:Int) (Y3 (Zc b17 0 Y5)) (λr F'=>∃G' S' ch,r=Za ch/\G.le G'/\FiI k g N D keys S S' p x x.right.length 0 ch/\St G' F' (mM G' sl S' g.YX.length g.YW.length++As)) F8:=λ{G8 F8 z b17} l8 hz h=>by
     unfold w9;have cx:∀{G' F':PH} {As':List (Ψ)},G7.le G'->St G' F' As'->F'.cell (Zc b12 1 Y5)=Y3 (vi x.left):=λl h=>ld (h.le _ _ (l _ _ q127)) rfl;refine ⟨x.left,cx l8 h,?_⟩;obtain ⟨a73,d1,d2,d3,d4⟩:=hat hxlt l8 h;have ca:∀{G' F':PH} {As':List (Ψ)},G7.le G'->St G' F' As'->F'.cell (Zb a73 (Int.toNat x.left*1))=Y3 (Y7 (sl xl)):=λ{G' F' As'} l h=>by obtain ⟨a,x1,_,_,x4⟩:=hat hxlt l h;rw [d1] at x1;cases x1;rw [hxle];exact x4
     refine ⟨a73,d1,by omega,by omega,sl xl,ca l8 h,_,rfl,u,hu.size,ac (h.le _ _ (l8 _ _ q157)),_,rfl,z,hz.size,ac (h.ptAt (i:=0) rfl),?_⟩;have h:=h.tail;refine h.run (ik hk6 fb f3 (hu.le (aa l7 l8)) hz) λ_ G9 F9 hr9 l9 h=> ?_;obtain ⟨y,rfl,hy⟩:=hr9;have l79:=aa l8 l9;refine ⟨y,rfl,ca l79 h,cx l79 h,?_⟩;refine (yx hk6 hI7.sx f1 hy hxlt (j:=(t:Int)) (by omega) (by omega) l79 h).mono ?_;rintro _ F10 ⟨G10,ch4,rfl,hch4,l10,h⟩;have l710:=aa l79 l10;rw [<- hxle] at hch4 h;refine ⟨ch4,rfl,cx l710 h,?_⟩;have go:∀ch5:Bool,(ch5=Y8↔ch3=Y8\/ch4=Y8)->∃m',m'<g.YX.length - t/\(∃(t':Nat) (G':PH) (S':Int×Int->Tr),(i64.wrap ((t:Int)+1))=t'/\t'<=g.YX.length/\m'=g.YX.length - t'/\G6.le G'/\FiI k g N D keys S S' p x i t' ch5/\St G' F10 (mM G' sl S' g.YX.length g.YW.length++As)):=λch5 h5=>by rw [aA htl];exact ⟨g.YX.length - (t+1),by omega,t+1,G10,_,rfl,by omega,rfl,aa l7 l710,hI7.next hk hN hD hx hsi (hkeys t htl) hch4 h5,h⟩
     unfold A5;exact ⟨λhc=>go Y8 ⟨λ_=> .inl hc,λ_=>rfl⟩,λhc=>go ch4 ⟨.inr,λh=>h.resolve_left λh'=>by rw [h'] at hc;cases hc⟩⟩
    refine ⟨s.t,ld (h.le _ _ q147) rfl,λhst=> ?_,λhst=> ?_⟩
    ·refine ⟨s.i,ld (h.le _ _ q147) rfl,?_⟩;refine (h.call (bH (decide (s.i=(t:Int))))).mono ?_;rintro _ F8 ⟨G8,⟨z,rfl,hz,l8⟩,h⟩;refine ⟨z,rfl,?_⟩;refine h.new λb17 F9 h=> ?_;refine h.put0 (w':=z) hz.size rfl hz.st λF10 h=> ?_;unfold xa;refine ⟨s.t,ld (h.le _ _ (l8 _ _ q147)) rfl,λhc=>(by rw [hst] at hc;cases hc),λ_=> ?_⟩;refine j6 l8 ?_ h;unfold snT;rw [Χ hst];exact hz
    ·have hst:s.t=Y6:=by simpa using hst
     refine (h.call (bH Y6)).mono ?_;rintro _ F8 ⟨G8,⟨z,rfl,hz,l8⟩,h⟩;refine ⟨z,rfl,?_⟩;refine h.new λb17 F9 h=> ?_;refine h.put0 (w':=z) hz.size rfl hz.st λF10 h=> ?_;unfold xa;refine ⟨s.t,ld (h.le _ _ (l8 _ _ q147)) rfl,λ_=> ?_,λhc=>(by rw [hst] at hc;cases hc)⟩;obtain ⟨sn,hsn⟩:=XW s00;have hsn:s.i=(sn:Int):=hsn;have hsl1:s.i<(g.YW.length:Nat):=s01 hst;have hsnl:sn<g.YW.length:=by omega
     refine ⟨s.i,ld (h.le _ _ (l8 _ _ q147)) rfl,?_⟩;obtain ⟨a65,d1,d2,d3,d4⟩:=hat hsnl l8 h;rw [hsn];refine ⟨a65,d1,d2,d3,sl sn,d4,?_⟩;refine h.mD_ix (j:=g.YW.length - 1 - sn+1) (by rw [XB];exact gH hsnl) l8 (by omega) (by omega) λa68 c68 hrow68 hd68=>⟨c68,hd68.size,hrow68,_,rfl,?_⟩;refine h.put0 (w':=c68) hd68.size hz.size hd68.st λF11 h=> ?_;refine j6 l8 ?_ h;unfold snT;rw [Υ (by rw [hst];decide),hsn];exact hd68
   ·have e:t=g.YX.length:=by omega
    subst e;unfold Iy;rw [aA hil];exact ⟨x.right.length - (i+1),by omega,i+1,G7,S7,rfl,by omega,rfl,aa l45 l57,hI7.row,h⟩
  refine ⟨?_,?_⟩
  ·refine (fZ (n:=g.YW.length) (S:=N) (st:=Y8) hk6 hN.sx hbg (hw.le l15) hcut (by rw [Xe];omega) hsyt (Rdb.pin (hNr.le l15)) h).mono ?_;rintro _ F6 ⟨G6,⟨u,rfl,hu⟩,l6,h⟩;refine ⟨u,rfl,ld (h.le _ _ (l6 _ _ q125)) rfl,?_⟩;exact h.var hu.st (λb15 G7 F7 l7 q15 h=>j3 (aa l6 l7) q15 (hu.le l7) h) rfl hu.size
  ·refine h.new λb15 F6 h=> ?_;refine (fZ (n:=g.YW.length) (S:=N) (st:=Y8) hk6 hN.sx hbg (hw.le l15) hcut (by rw [Xe];omega) hsyt (Rdb.pin (hNr.le l15)) h).mono ?_;rintro _ F7 ⟨G6,⟨u,rfl,hu⟩,l6,h⟩;refine ⟨u,rfl,ld (h.le _ _ (l6 _ _ q125)) rfl,?_⟩;refine h.put0 (w':=u) hu.size rfl hu.st λF8 h=> ?_;obtain ⟨G7,l7,q15,h⟩:=h.pinE;exact j3 (aa l6 l7) q15 (hu.le l7) h
 ·have e:i=x.right.length:=by omega
  subst e;unfold Iw;exact ⟨G4,S4,ch,rfl,l14,hI,h⟩
end
end
section
section
end
section
end
section
end
end
section
end
section
variable {g:Gr} {k:Nat} {G F G0:PH} {As:List (Ψ)} {sl:Nat->Sl}
theorem Id {S:Int×Int->Tr} {nt:Nat}:∀{n:Nat} {G:PH},G0.le G->St G F (mM G0 sl S nt n++As)->∃G',G.le G'/\(∀i,i<n->RL G' (sl i) (nS S nt i))/\St G' F As
 |0,G,_,h=>⟨G,am _,λi hi=>(by omega),h⟩
 |n+1,G,l0,h=>by
  have h:St G F (mD G0 (sl n) (bK (λj=>S ((n:Int),j)) nt)::(mM G0 sl S nt n++As)):=h;obtain ⟨G1,l1,hr,h⟩:=h.mD_pin;obtain ⟨G2,l2,hrs,h⟩:=Id (aa l0 l1) h;refine ⟨G2,aa l1 l2,λi hi=> ?_,h⟩;by_cases e:i=n
  ·subst e;exact (hr l0).le l2
  ·exact hrs i (by omega)
theorem KH {S:Int×Int->Tr} {nt n:Nat} {o:Sl} (ho:RdS G o 1 (slL sl n)) (h:∀i,i<n->RL G (sl i) (nS S nt i)):RL G o (io S nt n):=by
 have key:∀m,m<=n->∃vs:List Γ,cZ G (io S nt m) vs/\cat vs=slL sl m:=by
  intro m;induction m with
  |zero=>exact λ_=>⟨[],.nil,rfl⟩
  |succ m ih=>
   intro hm;obtain ⟨vs,h1,h2⟩:=ih (by omega);refine ⟨vs++[#[(sl m).v]],?_,?_⟩
   ·rw [s9];exact h1.append (.cons ⟨sl m,rfl,h m (by omega)⟩ .nil)
   ·rw [bY,h2,cJ];unfold slL;rw [Yw,Xt];rfl
 obtain ⟨vs,h1,h2⟩:=key n (W8 _);exact ⟨vs,h1,by rw [h2];exact ho⟩
theorem Es {N D:Int->Tr} {b1:Nat} {c n t s0 p l f sN sD o:Sl} {F0:PH} (hk:OkK g k) (hN:bX k g.YV (aD g) Y8 N) (hD:bX k g.YV (aD g) Y6 D) (lF:F0.le G) (hs:GS G g c n t s0 p l f) (q1:G b1=Y3 (Y4 (g.arr c n t s0 p l f) 37)) (hNr:RL G sN (bK N g.YW.length)) (hDr:RL G sD (bK D g.YW.length)) (hout:RdS G o 1 (slL sl g.YW.length))
  (h:St G F (mM G sl (λ_=>Y0 Y6) g.YX.length g.YW.length++[])):
  A1 b1 sN sD o (λr F'=>(∃sl ds,r=.tuple #[Y7 sl,vi 0]/\IV k g ds/\RL F' sl ds)/\F0.le F') F:=by
 obtain ⟨o1,o2,o3,o4⟩:=dp hk.ok;have hk6:=hk.le;have ep:=hs.p.len;have hgv:GV G (g.arr c n t s0 p l f) g:=⟨c,n,t,s0,p,l,f,rfl,hs⟩;unfold A1;have hkeys:∀(i:Nat) (x:Pr) (t:Nat),g.YV[i]? =Y3 x->t<g.YX.length->(x.left,(t:Int))∈g.YV.flatMap λx=>(List.range g.YX.length).map λt:Nat=>(x.left,(t:Int)):=λi x t hx ht=>YC.2 ⟨x,W7 hx,Xi.2 ⟨t,XN.2 ht,rfl⟩⟩;generalize (g.YV.flatMap λx=>(List.range g.YX.length).map λt:Nat=>(x.left,(t:Int)))=keys at hkeys
 refine ⟨λm ch F'=>∃(G':PH) (S:Int×Int->Tr),G.le G'/\Sxs k S/\FsS g S/\(ch=Y6->∀(q i:Nat) (x:Pr) (s:Sy) (t:Nat),g.YV[q]? =Y3 x->x.right[i]? =Y3 s->t<g.YX.length->ClF g N D S q i x s t)/\m=mu k keys S+(if ch=Y8 then 1 else 0)/\
  St G' F' (mM G' sl S g.YX.length g.YW.length++[]),_,⟨G,_,am _,λ_=>Sx.Y0 k Y6,λa b c hc=>(by cases hc),λhc=>(by cases hc),rfl,h⟩,?_⟩
 rintro _ ch F2 ⟨G2,S,l2,hS,hSn,hCl,rfl,h⟩;unfold Io;refine ⟨λhch=> ?_,λhch=> ?_⟩
 ·rw [Χ hch]
  refine ⟨λm2 ch2 q F'=>∃(pn:Nat) (G':PH) (S':Int×Int->Tr),q=pn/\pn<=g.YV.length/\m2=g.YV.length - pn/\G2.le G'/\Sxs k S'/\FsS g S'/\mu k keys S'<=mu k keys S/\(ch2=Y8->mu k keys S'<mu k keys S)/\(ch2=Y6->∀(j i:Nat) (x:Pr) (s:Sy) (t:Nat),j<pn->g.YV[j]? =Y3 x->x.right[i]? =Y3 s->t<g.YX.length->ClF g N D S' j i x s t)/\
   St G' F' (mM G' sl S' g.YX.length g.YW.length++[]),g.YV.length,⟨0,G2,S,rfl,Yz _,rfl,am _,hS,hSn,W8 _,λh=>(by cases h),λ_ j i x s t hj=>(by omega),h⟩,?_⟩
  rintro _ ch2 _ F3 ⟨pn,G3,S',rfl,hpn,rfl,l3,hS',hSn',hmu,hmu2,hCl',h⟩;have l03:=aa l2 l3;have q13:=l03 _ _ q1;unfold In;refine ⟨p,ld (h.le _ _ q13) rfl,λhlt=> ?_,λhge=> ?_⟩
  ·have hlt:pn<g.YV.length:=by omega
   refine ⟨_,rfl,ac (h.le _ _ q13),_,rfl,ac (h.le _ _ q13),p,ld (h.le _ _ q13) rfl,?_⟩;refine ixc (hs.p.le l03) (by decide) (by omega) (by omega) λa51 c51 x hx hrow51 hc51=> ?_;rw [N4] at hx;have hxm:=W7 hx;obtain ⟨_,_,_,hsy⟩:=hk.prod hxm;have hxl:=o4 x hxm;obtain ⟨r,n8,l8,rfl,hr,_⟩:=hc51;refine ⟨r,bj (aU h.le hrow51) (i:=2) rfl,?_⟩;refine h.run (gQ (hgv.le l03) hk hlt) λ_ G4 F4 hr4 l4 h=> ?_;obtain ⟨w4,rfl,hw4⟩:=hr4;have q14:=l4 _ _ q13;refine ⟨w4,rfl,bj (aU (aa l4 h.le) hrow51) (i:=2) rfl,ld (h.le _ _ q14) rfl,ac (h.le _ _ q14),?_⟩;refine (fZ (n:=g.YW.length) (S:=D) (st:=Y6) hk6 hD.sx (hk.prs pn) hw4 (hr.le l4) (by omega) (λy hy ht=>⟨(hsy y hy).1,(hsy y hy).2.1 ht⟩) (Rdb.pin (hDr.le (aa l03 l4))) h).mono ?_;rintro _ F5 ⟨G5,⟨w5,rfl,hw5⟩,l5,h⟩;have l35:=aa l4 l5;have l05:=aa l03 l35;have q15:=l5 _ _ q14;refine ⟨w5,rfl,ld (h.le _ _ q15) rfl,ac (h.le _ _ q15),?_⟩;refine (AQ (keys:=keys) (hgv.le l05) hk hN hD hx hw5 (hNr.le l05) (hout.le l05) (hkeys pn x · hx) hS' hSn' l35 h).mono ?_;rintro _ F6 ⟨G6,S6,ch3,rfl,l6,hI,h⟩;refine ⟨ch3,rfl,ld (h.le _ _ (l6 _ _ q15)) rfl,?_⟩;have l36:=aa l35 l6
   have go:∀ch4:Bool,(ch4=Y8↔ch2=Y8\/ch3=Y8)->∃m',m'<g.YV.length - pn/\(∃(pn':Nat) (G':PH) (S'':Int×Int->Tr),(i64.wrap ((pn:Int)+1))=pn'/\pn'<=g.YV.length/\m'=g.YV.length - pn'/\G2.le G'/\Sxs k S''/\FsS g S''/\mu k keys S''<=mu k keys S/\(ch4=Y8->mu k keys S''<mu k keys S)/\(ch4=Y6->∀(j i:Nat) (x:Pr) (s:Sy) (t:Nat),j<pn'->g.YV[j]? =Y3 x->x.right[i]? =Y3 s->t<g.YX.length->ClF g N D S'' j i x s t)/\
     St G' F6 (mM G' sl S'' g.YX.length g.YW.length++[])):=λch4 h4=>by
    rw [aA hlt];have hm6:=hI.mu;refine ⟨g.YV.length - (pn+1),by omega,pn+1,G6,S6,rfl,by omega,rfl,aa l3 l36,hI.sx,hI.snd,by omega,λh=> ?_,λh j i y s t hj hy hs ht=> ?_,h⟩
    ·rcases h4.1 h with h|h
     ·have:=hmu2 h;omega
     ·have:=hI.lt h;omega
    ·have e2:ch2=Y6:=by cases e:ch2 with
      |false=>rfl
      |true=>rw [h4.2 (.inl e)] at h;cases h
     have e3:ch3=Y6:=by cases e:ch3 with
      |false=>rfl
      |true=>rw [h4.2 (.inr e)] at h;cases h
     obtain ⟨e5,e6⟩:=hI.no e3;rw [e5];by_cases ej:j=pn
     ·subst ej;rw [hx] at hy;cases hy;exact e6 i s t hs ht (.inl (N6.1 hs).1)
     ·exact hCl' e2 j i y s t (by omega) hy hs ht
   unfold A0;exact ⟨λhc=>go Y8 ⟨λ_=> .inl hc,λ_=>rfl⟩,λhc=>go ch3 ⟨.inr,λh=>h.resolve_left λh'=>by rw [h'] at hc;cases hc⟩⟩
  ·have e:pn=g.YV.length:=by omega
   subst e;refine ⟨mu k keys S'+(if ch2=Y8 then 1 else 0),?_,G3,S',aa l2 l3,hS',hSn',λhc q i x s t hq hs ht=>hCl' hc q i x s t (N6.1 hq).1 hq hs ht,rfl,h⟩;by_cases hc:ch2=Y8
   ·have:=hmu2 hc;rw [Χ hc];omega
   ·rw [Υ hc];omega
 ·unfold Im;obtain ⟨G3,l3,hr,_⟩:=Id (am _) h;have hle:=h.le;have hF:od k g.YV (aD g) S:=⟨hS,λm c=>⟨hSn m.1 m.2 c,λhf=>KG hk hN hD hS (hCl hch) hf⟩⟩;refine ⟨⟨o,_,rfl,⟨S,hF,rfl⟩,?_⟩,aa lF (aa l2 hle)⟩;exact (KH (hout.le (aa l2 l3)) hr).le (St.le ‹_›)
theorem yz {v:Γ} (hg:GV F v g) (hz:Sml g) (hk:OkK g k):ν 26 #[Y9 v] F λr F'=>(∃sl ds,r=.tuple #[Y7 sl,vi 0]/\IV k g ds/\RL F' sl ds)/\F.le F':=by
 obtain ⟨_,_,TD⟩:=NT;obtain ⟨o1,o2,o3,o4⟩:=dp hk.ok;have hgv:=hg;obtain ⟨c,n,t,s0,p,l,f,rfl,hs⟩:=hg;have es:=hs.s.len;have et:=hs.t.len;refine WM ?_;unfold UR;refine (St.start F).newG λb1 G1 F1 l1 q1 _ h=>⟨_,rfl,ac (h.le _ _ q1),?_⟩;refine h.runv (Ic (hgv.le l1) hz hk.ok) λG2 F2 l2 h=>⟨_,rfl,λhn=>absurd rfl hn,λ_=>⟨_,rfl,ac (h.le _ _ (l2 _ _ q1)),?_⟩⟩;have l02:=aa l1 l2;refine (oJ (hgv.le l02) hk h).mono ?_;rintro _ F3 ⟨G3,sN,N,rfl,l3,hsN,hN,h⟩;obtain ⟨G4,l4,hNr,h⟩:=h.mD_pin;have hNr:=hNr (am _);have l24:=aa l3 l4;have l04:=aa l02 l24;have q14:=l24 _ _ (l2 _ _ q1);refine ⟨sN,rfl,_,rfl,ac (h.le _ _ q14),?_⟩;refine (oJ (hgv.le l04) hk h).mono ?_;rintro _ F5 ⟨G5,sD,D,rfl,l5,hsD,hD,h⟩;obtain ⟨G6,l6,hDr,h⟩:=h.mD_pin;have hDr:=hDr (am _);have l46:=aa l5 l6;have l06:=aa l04 l46;have q16:=l46 _ _ q14;refine ⟨sD,rfl,?_⟩;have h:=(h.nilOwn 39 1);refine ⟨λm o q F'=>∃(i:Nat) (G':PH) (sl:Nat->Sl),q=i/\i<=g.YW.length/\m=g.YW.length - i/\G6.le G'/\o.len=i/\St G' F' (own o 39 1 (slL sl i)::(mM G' sl (λ_=>Y0 Y6) g.YX.length i++[])),g.YW.length,⟨0,G6,λ_=>Zi,rfl,Yz _,rfl,am _,rfl,by simpa [mM,slL] using h⟩,?_⟩;rintro _ o _ F6 ⟨i,G7,sl,rfl,hi,rfl,l7,ho,h⟩;have q17:=l7 _ _ q16;unfold Ip;refine ⟨s0,ld (h.le _ _ q17) rfl,λhlt=> ?_,λhge=> ?_⟩
 ·have hlt:i<g.YW.length:=by omega
  refine ⟨t,ld (h.le _ _ q17) rfl,?_⟩;dsimp only;rw [et];refine (uC (by omega) h).mono ?_;rintro _ F7 ⟨G8,s,rfl,l8,hs8,h⟩;refine ⟨s,rfl,?_⟩;refine h.swap.push0 TD (c:= #[s.v]) rfl (by simp [ak,Y7]) (by omega) λo' G9 F8 l9 h ho'=> ?_;rw [aA hlt];refine ⟨g.YW.length - (i+1),by omega,i+1,G9,λm=>if m=i then s else sl m,rfl,by omega,rfl,aa l7 (aa l8 l9),by omega,?_⟩;rw [Ib,Pw];have h:St G9 F8 (own o' 39 1 (slL sl i++[Y7 s])::mD G8 s (bK (λ_=>Y0 Y6) g.YX.length)::(mM G7 sl (λ_=>Y0 Y6) g.YX.length i++[])):=h;refine h.impAll (by simp only [Xl,Xa,dQ];omega) λm A B hA hB H hH=> ?_
  match m,hA,hB with
  |0,hA,hB=>cases hA;cases hB;exact hH
  |1,hA,hB=>cases hA;cases hB;exact hH.le l9
  |m+2,hA,hB=>
   have hA:(mM G7 sl (λ_=>Y0 Y6) g.YX.length i++[])[m]? =Y3 A:=hA;have hB:(mM G9 sl (λ_=>Y0 Y6) g.YX.length i++[])[m]? =Y3 B:=hB;by_cases hm:m<i
   ·have e1:=gH (G0:=G7) (sl:=sl) (S:=λ_=>Y0 Y6) (nt:=g.YX.length) (As:=[]) (i:=i - 1 - m) (n:=i) (by omega);have e2:=gH (G0:=G9) (sl:=sl) (S:=λ_=>Y0 Y6) (nt:=g.YX.length) (As:=[]) (i:=i - 1 - m) (n:=i) (by omega);rw [show i - 1 - (i - 1 - m)=m by omega] at e1 e2;rw [e1] at hA;rw [e2] at hB;cases hA;cases hB;exact hH.le (aa l8 l9)
   ·rw [Xn (by rw [dQ];omega),dQ] at hA;simp at hA
 ·have e:i=g.YW.length:=by omega
  subst e;obtain ⟨G8,l8,hout,h⟩:=h.pinO;have h:=Ia l8 h;have l68:=aa l7 l8;have l46':=aa l46 l68;exact Es hk hN hD (aa l06 l68) (hs.le (aa l06 l68)) (l68 _ _ q16) (hNr.le l46') (hDr.le l68) hout h
theorem Ie {l:List Pr} {P:Nat->Tr} {S T:Int×Int->Tr} (hS:od k l P S) (hT:od k l P T):S=T:=by funext m;exact eQ (hS.sx m).1 (hT.sx m).1 λc=>Xc.2 ((hS.iff m c).trans (hT.iff m c).symm)
theorem tE {v:Γ} {x:Rw} {sm:Sl} {more:List Ln} (hT:Tab F) (hx:zy F v x) (hm:RL F sm more):ν 4 #[Y9 v,sm.v] F (RT6 F):=by
 refine cQ4 ?_;unfold bQ4;have hvs:v.size=5:=by obtain ⟨⟨a,b,c,rfl,_⟩,_⟩:=hx;rfl
 refine (St.start F).newG λb2 G1 F1 l1 q2 _ h=> ?_;refine h.runv (KP (hT.le l1)) λG2 F2 l2 h=>⟨_,rfl,v,hvs,ac (h.le _ _ (l2 _ _ q2)),?_⟩;have l02:=aa l1 l2;refine h.run (P:=λr G'=>∃w,r=Y9 w/\GV G' w (gn x more)) (AO (hx.le l02) (hm.le l02)) λ_ G3 F3 hr l3 h=> ?_;obtain ⟨w,rfl,hg⟩:=hr;have l03:=aa l02 l3;refine ⟨w,rfl,?_⟩;have lg:=IP x more;have hok:=lg.ok (by omega);have hz:=lg.mg.sz lg.bd;have hrl:=lg.rl;have hsl:=(lg.ti (by omega)).sml (by decide);generalize gn x more=g at*;clear lg hm hx;obtain ⟨o1,o2,o3,o4⟩:=dp hok.ok;have hk:=hok.le;refine h.var hg.st (λb6 G4 F4 l4 q6 h=> ?_) rfl hg.size;have hg:=hg.le l4;have l04:=aa l03 l4;have hT:=hT.le l04;have r6:∀{G' F':PH} {As:List (Ψ)},G4.le G'->St G' F' As->F'.row (Zc b6 0 Y5) w:=λl h=>ac (h.le _ _ (l _ _ q6));refine ⟨w,hg.size,r6 (am _) h,?_⟩;refine h.run (uT hT hg hz hok hrl (by omega) (by omega) (by omega)) λ_ G5 F5 hr l5 h=> ?_;obtain ⟨sa,_,rfl,⟨S1,hS1,rfl⟩,ha⟩:=hr;refine ⟨sa,_,rfl,w,hg.size,r6 l5 h,?_⟩;refine h.run (yz (hg.le l5) hsl hok) λ_ G6 F6 hr l6 h=> ?_;obtain ⟨sb,_,rfl,⟨S2,hS2,rfl⟩,hb⟩:=hr;obtain rfl:=Ie hS1 hS2;have m6:=aa l5 l6;have ha:=ha.le l6;have ea:=ha.len;have eb:=hb.len;rw [uR] at ea eb;refine ⟨sb,_,rfl,λhn=>absurd rfl hn,λ_=>⟨λhn=>absurd (by omega) hn,λ_=> ?_⟩⟩;refine bh (IB · Y8 sa sb _) g.YW.length (λi F'=>∃G':PH,G6.le G'/\St G' F' []) ⟨G6,am _,h⟩ ?_;rintro i F7 N1 hi ⟨G7,l7,h⟩ next;unfold IB;refine ⟨λhlt=> ?_,λhge=> ?_⟩
 ·have hlt:i<g.YW.length:=by omega
  refine ixc (ha.le l7) (by decide) (by omega) (by omega) λa44 c44 row hrw hrow44 hc44=> ?_;rw [N4,uD hlt] at hrw;cases hrw;obtain ⟨t1,rfl,ht1⟩:=hc44;refine ⟨t1,aQ (aU h.le hrow44) rfl,?_⟩;refine ixc (hb.le l7) (by decide) (by omega) (by omega) λa48 c48 row hrw hrow48 hc48=> ?_;rw [N4,uD hlt] at hrw;cases hrw;obtain ⟨t2,rfl,ht2⟩:=hc48;refine ⟨t2,aQ (aU h.le hrow48) rfl,?_⟩
  have hsame:=dY ht1 ht2 (λd hd=>by
   obtain ⟨q,_,rfl⟩:=Xi.1 hd
   exact j7 (hS1.sx _) hk) (by unfold nS;rw [Xd,XI];omega)
  rw [ζ rfl] at hsame;refine h.runv hsame λG8 F8 l8 h=>⟨_,rfl,λhn=>(by cases hn),λ_=> ?_⟩;rw [aA hlt];exact next _ hlt ⟨G8,aa l7 l8,h⟩
 ·unfold NS;exact ⟨rfl,aa l04 (aa m6 (aa l7 h.le))⟩
end
