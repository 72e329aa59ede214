/-
  Where a production is present, by the reference; where its symbols are in their sets; unions.
-/
import Derived.Test.YtcemhghkipgdiaaGreatDoorBc
namespace Go.Proofs.YtcemhghkipgdiaaGreatDoor
open Go Go.Proofs.Tryz Tr
set_option maxRecDepth 10000
theorem Pj:∃b z,SlT 50 63 2 b z:=JO
theorem Pk:∃b z,SlT 33 55 13 b z:=⟨_,_,underlying33,M1,M5,rfl,by decide,by decide⟩
abbrev yr (nm:ByteArray) (left:Int) (r n:Sl) (d:Int):Γ:= #[.string nm,vi left,r.v,n.v,vi d,.bool false,vi 0,.slice none 0 0,.bool false,vi 0,vi 0,vi 0,vi 0]
theorem B2 (l:List Sy) (y:Sy):cat (l.map Sy.arr)++y.arr.toList=cat ((l++[y]).map Sy.arr):=by rw [Tf,cj];simp [cat]
theorem yt {G:PH} (l:List Sy):cX G l (l.map Sy.arr):=by
 induction l with
 |nil=>exact .nil
 |cons x l ih=>exact .cons rfl ih
section
variable {F:PH}
theorem yu {v:Γ} {x:Rw} {sm:Sl} {more:List Ln} (hx:xd F v x) (hm:RL F sm more):aj prog 13 #[.agg v,sm.v] F (LR F (fO x more)):=by
 obtain ⟨_,_,TS⟩:=Pj;obtain ⟨_,_,TP⟩:=Pk;have em:=hm.len (by decide);have emc:=hm.cap;refine RA ?_;unfold Pq;have hvs:v.size=5:=by obtain ⟨⟨a,b,c,rfl,_⟩,_⟩:=hx;rfl
 refine (St.start F).newG λb2 G1 F1 l1 q2 _ h=>h.new λb4 F2 h=>⟨v,hvs,ac (h.le _ _ q2),?_⟩;refine h.run (P:=λr G'=>∃w,r=.agg w/\GV G' w (cZ x)) (vp (hx.le l1)) λ_ G3 F3 hr l3 h=> ?_;obtain ⟨w,rfl,hg⟩:=hr;refine ⟨w,rfl,?_⟩;obtain ⟨c,n,t,s,p,l,f,rfl,hgs⟩:=hg;have l13:=aa l1 l3;refine h.new λb5 F4 h=> ?_;refine h.put0 (w':=(cZ x).arr c n t s p l f) rfl rfl (by simp [ak,Sl.v]) λF5 h=> ?_;have hmin:(more.take 4).length=min 4 more.length:=SR ..
 refine bu (yB · sm b4 b5 _) (min 4 more.length) (λi F'=>∃(G':PH) (p':Sl),G3.le G'/\GS G' (eA (cZ x) 0 ((more.take 4).take i)) c n t s p' l f/\
  ∃Bs,St G' F' ([pt b5 (.cells ((eA (cZ x) 0 ((more.take 4).take i)).arr c n t s p' l f) 37),pt b4 (.cells zG 37)]++Bs)) ⟨G3,p,aq _,hgs,[],h⟩ ?_
 rintro i F6 N1 hi ⟨G4,p4,l4,hg4,Bs,h⟩ next;replace h:St G4 F6 [pt b5 (.cells ((eA (cZ x) 0 ((more.take 4).take i)).arr c n t s p4 l f) 37),pt b4 (.cells zG 37)]:=h.pick id (λ_ _ _ _ e=>e) λi hi=>by rw [id,SJ hi]
 unfold yB;have lg:LG (eA (cZ x) 0 ((more.take 4).take i)) i:=by have:=LG.list ((more.take 4).take i) (LG.made x) (by rw [SR,hmin];omega);rw [SR,hmin,SP] at this;rwa [show min i (min 4 more.length)=i by omega] at this
 have done:i=min 4 more.length->uJ b4 b5 (LR F (fO x more)) F6:=λe=>by
  have e2:eA (cZ x) 0 ((more.take 4).take i)=fO x more:=by unfold fO;rw [SI (l:=more.take 4) (by omega)]
  rw [e2] at h hg4;unfold uJ;refine ⟨_,rfl,ac (h.ptAt (i:=0) rfl),?_⟩;refine h.put1 (w':=(fO x more).arr c n t s p4 l f) rfl rfl (by simp [ak,Sl.v]) λF7 h=> ?_;exact ⟨_,rfl,ac (h.ptAt (i:=1) rfl),⟨_,rfl,c,n,t,s,p4,l,f,rfl,hg4.le h.le⟩,aa l13 (aa l4 h.le)⟩
 refine ⟨λhlt=>⟨λhi4=> ?_,λhi4=>done (by omega)⟩,λhlt=>done (by omega)⟩;have hil:i<more.length:=by omega
 have hi4':i<4:=by omega
 obtain ⟨y,hy⟩:∃y,more[i]? =some y:=⟨_,N5 hil⟩;have htake:(more.take 4).take (i+1)=(more.take 4).take i++[y]:=by rw [TQ,Tq (by omega),hy];rfl
 have hnext:eA (cZ x) 0 ((more.take 4).take (i+1))=EE (eA (cZ x) 0 ((more.take 4).take i)) i y:=by rw [htake,nC,SP,SR,hmin,show min i (min 4 more.length)=i by omega]
 generalize eA (cZ x) 0 ((more.take 4).take i)=g at*;have es:=hg4.s.len (by decide);have ec:=hg4.c.len (by decide);have ep:=hg4.p.len (by decide);have hc3:=lg.bd.c;have hn0:=lg.bd.n0;have hn3:=lg.bd.n;have hp22:=lg.bd.p;have l14:=aa l13 l4;refine ixc (hm.le l14) (by decide) (by omega) (by omega) λa31 c31 y' hy' hrow31 hc31=> ?_;rw [N4,hy] at hy';cases hy';obtain ⟨ry,rfl,hry,hyl,hyc,_,hyr⟩:=hc31;have ery:=hry.len;rw [SM,Tb] at ery;refine ⟨(y.left:Int),aY (aT h.le hrow31) rfl,s,ld (h.ptAt (i:=0) rfl) rfl,by omega,?_⟩;have el:Int.tmod (IntKind.i64.wrap (y.left:Int)) (s.len:Int)=((y.left % g.nons.length:Nat):Int):=by rw [es,aO (by omega) (by omega),fF]
 have ecx:IntKind.u8.wrap (IntKind.i64.wrap ((97:Int)+(i:Int)))=((97+i:Nat):Int):=by rw [show (97:Int)+(i:Int)=((97+i:Nat):Int) by omega,aO (by omega) (by omega),vv (by omega)]
 rw [ecx,el];have sz2:(ByteArray.mk #[113]).size+(ByteArray.mk #[UInt8.ofNat (97+i)]).size<=9223372036854775807:=by show 1+1<=9223372036854775807;decide
 have fin:∀{G' F':PH} {b7:Nat},G4.le G'->St G' F' [pt b7 (.cells (yr (eY i) ((y.left % g.nons.length:Nat):Int) Sl.nil Sl.nil 0) 55),pt b5 (.cells (g.arr c n t s p4 l f) 37),pt b4 (.cells zG 37)]->
   uN N1 sm b4 b5 (i:Int) (some (Addr.mk b7 0 none)) (LR F (fO x more)) F':=λ{G' F' b7} l5 h=>by
  unfold uN;refine ixc (hm.le (aa l14 l5)) (by decide) (by omega) (by omega) λa42 c42 y' hy' hrow42 hc42=> ?_;rw [N4,hy] at hy';cases hy';obtain ⟨ry,rfl,hry,hyl,hyc,_,hyr⟩:=hc42;have ery:=hry.len;rw [SM,Tb] at ery;refine ⟨ry,bN (aT h.le hrow42) (i:=1) rfl,?_⟩;have h:=(h.nilOwn 63 2).swap;have hmr:(y.right.take 3).length=min 3 y.right.length:=SR ..
  refine bu (yA N1 · sm b4 b5 (i:Int) (some (Addr.mk b7 0 none)) ry _) (min 3 y.right.length) (λk F'=>∃(G'':PH) (sr:Sl),G'.le G''/\sr.len=k/\
   ∃Bs,St G'' F' ([pt b7 (.cells (yr (eY i) ((y.left % g.nons.length:Nat):Int) sr Sl.nil 0) 55),own sr 63 2 (cat ((((y.right.take 3).map (bS g.nons.length)).take k).map Sy.arr)),pt b5 (.cells (g.arr c n t s p4 l f) 37),pt b4 (.cells zG 37)]++Bs)) ⟨G',Sl.nil,aq _,rfl,[],h⟩ ?_
  rintro k F7 N2 hk ⟨G5,sr,l6,hsr,Bs,h⟩ next2;replace h:St G5 F7 [pt b7 (.cells (yr (eY i) ((y.left % g.nons.length:Nat):Int) sr Sl.nil 0) 55),own sr 63 2 (cat ((((y.right.take 3).map (bS g.nons.length)).take k).map Sy.arr)),pt b5 (.cells (g.arr c n t s p4 l f) 37),pt b4 (.cells zG 37)]:=h.pick id (λ_ _ _ _ e=>e) λi hi=>by rw [id,SJ hi]
  have l46:=aa l5 l6;unfold yA;have done2:k=min 3 y.right.length->uL N1 sm b4 b5 (i:Int) (some (Addr.mk b7 0 none)) (LR F (fO x more)) F7:=λe=>by
   rw [SI (by rw [SM,hmr];omega)] at h;obtain ⟨G6,l7,hd,h⟩:=h.swap.pinO;have hsy:RL G6 sr ((y.right.take 3).map (bS g.nons.length)):=⟨_,yt _,hd⟩;have l47:=aa l46 l7;have hg6:=hg4.le l47;unfold uL;refine ixc (hm.le (aa l14 l47)) (by decide) (by omega) (by omega) λa85 c85 y' hy' hrow85 hc85=> ?_;rw [N4,hy] at hy';cases hy';obtain ⟨ry',rfl,_⟩:=hc85;refine ⟨(y.cond:Int),bN (aT h.le hrow85) (i:=2) rfl,c,ld (h.ptAt (i:=1) rfl) rfl,?_⟩;dsimp only;rw [ec];refine h.run (pk y.cond g.conds.length hyc (by omega) _) λ_ G7 F8 hr l8 h=> ?_;obtain ⟨⟨_,rfl,hw⟩,-⟩:=hr;obtain ⟨m,rfl,hmm⟩:=hw.out;refine ⟨_,rfl,ld (h.ptAt (i:=1) rfl) rfl,_,rfl,?_⟩;simp only [aC];refine h.putR0 (o:=3) (w':=(mE g i y).arr sr m Sl.nil) rfl (by simp [ak,Sl.v]) (by show 3+2<=13;decide) rfl λF9 h=> ?_;have hP:Mem.rep G7 (mE g i y) ((mE g i y).arr sr m Sl.nil):=⟨sr,m,Sl.nil,rfl,hsy.le l8,hmm,RL.nil _⟩;refine ⟨p4,ld (h.ptAt (i:=1) rfl) rfl,_,rfl,ac (h.ptAt (i:=0) rfl),?_⟩;have hg7:=hg6.le l8;refine St.grow TP h hg7.p hP (by omega) rfl (λG' F' st=>ac (st.ptAt (i:=0) rfl)) λs' G8 F10 l9 hs' h=> ?_;have hg8:=hg7.le l9;refine h.set1 (w':=(EE g i y).arr c n t s s' l f) (by show 5<9;decide) rfl λF11 h=> ?_;unfold uK;rw [aE (n:=4) hi4' (by decide)];have hlt':i<min 4 more.length:=by omega
   have hfin:=next F11 hlt';rw [hnext] at hfin;exact hfin ⟨G8,s',aa l4 (aa l47 (aa l8 l9)),⟨hg8.c,hg8.n,hg8.t,hg8.s,hs',hg8.l,hg8.f⟩,_,h.rot⟩
  refine ⟨λhkl=>⟨λhk3=> ?_,λhk3=>done2 (by omega)⟩,λhkl=>done2 (by omega)⟩;have hkr:k<y.right.length:=by omega
  obtain ⟨b,hb⟩:∃b,y.right[k]? =some b:=⟨_,N5 hkr⟩;have hb256:b<256:=hyr b (SE hb);have hsym:((y.right.take 3).map (bS g.nons.length))[k]? =some (bS g.nons.length b):=by rw [SQ,Tq (by omega),hb];rfl
  have hst:((y.right.take 3).map (bS g.nons.length)).take (k+1)=((y.right.take 3).map (bS g.nons.length)).take k++[bS g.nons.length b]:=by rw [TQ,hsym];rfl
  have hat:∀{G' F':PH} {As:List (Ψ)},G5.le G'->St G' F' As->∃a,ry.base=some a/\0<=(k:Int)/\(k:Int)<(ry.len:Int)/\F'.cell (Addr.add a (Int.toNat (k:Int)*1))=some (vB b):=λl h=>
   (((hry.le l6).le l).le h.le).at6 (by rw [SQ,hb];rfl)
  obtain ⟨a57,e1,e2,e3,e4⟩:=hat (aq _) h;refine ⟨a57,e1,e2,e3,(b:Int),e4,s,ld (h.ptAt (i:=2) rfl) rfl,by omega,?_⟩;have eb:Int.tmod (IntKind.i64.wrap (b:Int)) (s.len:Int)=((b % g.nons.length:Nat):Int):=by rw [es,aO (by omega) (by omega),fF]
  have eb9:Int.tmod (IntKind.i64.wrap (b:Int)) (9:Int)=((b % 9:Nat):Int):=by rw [aO (by omega) (by omega)];exact fF b 9
  rw [eb];refine h.new λb10 F8 h=> ?_;refine h.put0 (w':= #[.bool false,vi ((b % g.nons.length:Nat):Int)]) rfl rfl (by simp [ak]) λF9 h=> ?_;obtain ⟨a67,f1,f2,f3,f4⟩:=hat (aq _) h;refine ⟨a67,f1,f2,f3,(b:Int),f4,?_⟩;have fin5:∀{F':PH} {sy:Sy},sy=bS g.nons.length b->St G5 F' [pt b10 (.cells sy.arr 63),pt b7 (.cells (yr (eY i) ((y.left % g.nons.length:Nat):Int) sr Sl.nil 0) 55),own sr 63 2 (cat ((((y.right.take 3).map (bS g.nons.length)).take k).map Sy.arr)),pt b5 (.cells (g.arr c n t s p4 l f) 37),pt b4 (.cells zG 37)]->
    uM N1 N2 sm b4 b5 (i:Int) (some (Addr.mk b7 0 none)) ry (k:Int) b10 (LR F (fO x more)) F':=λ{F' sy} esy h=>by
   unfold uM;refine ⟨_,rfl,sr,by rw [aC];exact ld (h.ptAt (i:=1) rfl) rfl,sy.arr,rfl,ac (h.ptAt (i:=0) rfl),rfl,?_⟩;refine h.push2 TS (c:=sy.arr) rfl (by simp [ak]) (by omega) λs' G6 F10 l7 h hl'=> ?_;rw [B2,esy,<- hst] at h;simp only [aC];refine h.set1 (w':=yr (eY i) ((y.left % g.nons.length:Nat):Int) s' Sl.nil 0) (by show 2<13;decide) rfl λF11 h=> ?_;rw [aE (n:=3) (by omega) (by decide)];exact next2 _ (by omega) ⟨G6,s',aa l6 l7,by omega,_,h.rot⟩
  refine ⟨λhgt=> ?_,λhle=> ?_⟩
  ·obtain ⟨a72,g1,g2,g3,g4⟩:=hat (aq _) h;refine ⟨a72,g1,g2,g3,(b:Int),g4,?_⟩;dsimp only;rw [eb9];refine h.put0 (w':= #[.bool true,vi ((b % 9:Nat):Int)]) rfl rfl (by simp [ak]) λF10 h=> ?_;exact fin5 (sy:=⟨true,((b % 9:Nat):Int)⟩) (by unfold bS;rw [if_pos (by omega)]) h
  ·exact fin5 (sy:=⟨false,((b % g.nons.length:Nat):Int)⟩) (by unfold bS;rw [if_neg (by omega)]) h
 refine ⟨?_,?_⟩
 ·refine h.newG λb26 G5 F7 l5 q26 _ h=> ?_;refine ⟨_,gN (h.le _ _ q26),sz2,?_⟩;refine h.new λb7 F8 h=> ?_;refine h.put0 (w':=yr (eY i) ((y.left % g.nons.length:Nat):Int) Sl.nil Sl.nil 0) rfl rfl (by simp [ak,Sl.v,Sl.nil]) λF9 h=> ?_;exact fin l5 h
 ·refine h.new λb7 F8 h=> ?_;refine h.newG λb26 G5 F7 l5 q26 _ h=> ?_;refine ⟨_,gN (h.le _ _ q26),sz2,?_⟩;refine h.put0 (w':=yr (eY i) ((y.left % g.nons.length:Nat):Int) Sl.nil Sl.nil 0) rfl rfl (by simp [ak,Sl.v,Sl.nil]) λF9 h=> ?_;exact fin l5 h
end
theorem EB {F:PH} {a:Addr} {x:Pr} {r n l:Sl} (h:F.row a (x.arr r n l)):F.row (a.add 3) #[n.v,vi x.cond.2]:=zq h rfl
theorem B3 {F:PH} {a:Addr} {x:Tk} {p n:Sl} (h:F.row a (x.arr p n)):F.row (a.add 5) #[n.v,vi x.cond.2]:=zq h rfl
theorem mC {k:Nat} {a b:Tr} {u w:Γ} {F:PH} (hk:k<=6) (ha:Sx k a) (hb:Sx k b) (hu:DV F u (dia a)) (hw:DV F w (dia b)):aj prog 45 #[.agg u,.agg w] F λr F'=>iw (dia (ap2 aV a b)) r F'/\F.le F':=
 (gQ hu hw (ha.f2 hb hk)).mono λ_ _ ⟨w,h1,h2,h3⟩=>⟨⟨w,h1,h2⟩,h3⟩
section
variable {F:PH} {g:Gr} {k:Nat}
theorem rJ {v:Γ} (hg:GV F v g) (hk:OkK g k) {i:Nat} (hi:i<g.prods.length):aj prog 70 #[.agg v,vi i] F λr F'=>iw (dia (aF g i)) r F'/\F.le F':=by
 obtain ⟨o1,o2,o3,o4⟩:=eL hk.ok;obtain ⟨c,n,t,s,p,l,f,rfl,hs⟩:=hg;have ep:=hs.p.len (by decide);have et:=hs.t.len (by decide);refine RC ?_;unfold Pu;refine (St.start F).newG λb2 G1 F1 l1 q2 _ h=>h.new λb4 F2 h=> ?_;have hs1:=hs.le l1;have hf:DV G1 #[n.v,vi g.fam.2] (dia (tre g.fam)):=by rw [<- hk.fam.2];exact DV.mk hs1.n
 refine ⟨#[n.v,vi g.fam.2],rfl,mb (h.le _ _ q2) rfl,_,ld (h.le _ _ q2) rfl,?_⟩;refine ixc hs1.p (by decide) (by omega) (by omega) λa13 c13 x hx hrow hc=> ?_;rw [N4] at hx hrow ⊢;have hxm:=SE hx;obtain ⟨hxc,hxd,_,hsy⟩:=hk.prod hxm;have hxl:=o4 x hxm;obtain ⟨r,n8,l8,rfl,hr,hn8,_⟩:=hc;have er:=hr.len (by decide);have hd2:DV G1 #[n8.v,vi x.cond.2] (dia (tre x.cond)):=by rw [<- hxd];exact DV.mk hn8
 refine ⟨#[n8.v,vi x.cond.2],rfl,aT h.le (EB hrow),?_⟩;have hfc:=hk.fam.1.ap2 (o:=aV) hxc;have ep2:aF g i=i8 g (ap2 aV (tre g.fam) (tre x.cond)) x.right:=by unfold aF;rw [hx]
 have fin:∀{G' F':PH} {y:Γ} {b5:Nat},G1.le G'->DV G' y (dia (ap2 aV (tre g.fam) (tre x.cond)))->St G' F' [pt b5 (.cells y 31),pt b4 (.cells zD 31)]->
   uP (i:Int) b2 b4 (some (Addr.mk b5 0 none)) (λr F'=>iw (dia (aF g i)) r F'/\F.le F') F':=λ{G' F' y b5} l2 hy h=>by
  unfold uP;have q22:=l2 _ _ q2;refine ⟨_,ld (h.le _ _ q22) rfl,?_⟩;refine ixc (hs1.p.le l2) (by decide) (by omega) (by omega) λa20 c20 x' hx' hrow20 hc20=> ?_;rw [N4] at hx' hrow20 ⊢;rw [hx] at hx';cases hx';obtain ⟨r,n8,l8,rfl,hr,_⟩:=hc20;have er:=hr.len (by decide);refine ⟨r,bN (aT h.le hrow20) (i:=2) rfl,?_⟩;refine bu (yD · b2 b4 (some (Addr.mk b5 0 none)) r _) x.right.length (λj F'=>∃(G'':PH) (u:Γ),G'.le G''/\DV G'' u (dia (i8 g (ap2 aV (tre g.fam) (tre x.cond)) (x.right.take j)))/\St G'' F' [pt b5 (.cells u 31),pt b4 (.cells zD 31)]) ⟨G',y,aq _,by rw [TF];exact hy,h⟩ ?_;rintro j F3 N hj ⟨G3,u,l3,hu,h⟩ next;have l13:=aa l2 l3;unfold yD;refine ⟨λhlt=> ?_,λhge=> ?_⟩
  ·have hlt:j<x.right.length:=by omega
   refine ixc (hr.le l3) (by decide) (by omega) (by omega) λa31 c31 sy hsj hrow31 hc31=> ?_;rw [N4] at hsj;obtain rfl:c31=sy.arr:=hc31;obtain ⟨s0,_,s2⟩:=hsy sy (SE hsj);have et2:=cS hsj;have hsn:=mM (g:=g) sy (x.right.take j) (ap2 aV (tre g.fam) (tre x.cond));refine ⟨sy.t,aY (aT h.le hrow31) rfl,λht=> ?_,λht=> ?_⟩
   ·rw [if_pos ht] at hsn;obtain ⟨tk,htk,_⟩:=s2 ht;have ed:jC g sy.i=tre tk.cond:=by unfold jC;rw [htk]
    obtain ⟨tx,td⟩:=hk.tok (SE htk);have hti:sy.i.toNat<g.toks.length:=(N6.1 htk).1;refine ⟨_,rfl,u,hu.size,ac (h.ptAt (i:=0) rfl),_,ld (h.le _ _ (l3 _ _ q22)) rfl,?_⟩;refine ixc (hr.le l3) (by decide) (by omega) (by omega) λa39 c39 sy' hsj' hrow39 hc39=> ?_;rw [N4,hsj] at hsj';cases hsj';obtain rfl:c39=sy.arr:=hc39;refine ⟨sy.i,bN (aT h.le hrow39) (i:=1) rfl,?_⟩;refine ixc (hs1.t.le l13) (by decide) s0 (by omega) λa42 c42 tk' htk' hrow42 hc42=> ?_;rw [htk] at htk';cases htk';obtain ⟨pp,nn,rfl,_,hnn⟩:=hc42;have hdt:DV G3 #[nn.v,vi tk.cond.2] (dia (jC g sy.i)):=by rw [ed,<- td];exact DV.mk hnn
    obtain ⟨fx,_⟩:=eM hk (x.right.take j) hfc;refine ⟨#[nn.v,vi tk.cond.2],rfl,aT h.le (B3 hrow42),?_⟩;refine h.run (mC hk.le fx (hk.tkd sy.i) hu hdt) λ_ G4 F4 hr4 l4 h=> ?_;obtain ⟨z,rfl,hz⟩:=hr4;refine ⟨z,rfl,bN (aT (aa l4 h.le) hrow39) (i:=1) rfl,ld (h.le _ _ (l4 _ _ (l3 _ _ q22))) rfl,?_⟩;refine h.put0 (w':=z) hz.size hu.size hz.st λF5 h=> ?_;unfold uO;rw [aE hlt (by omega)];refine next _ hlt ⟨G4,z,aa l3 l4,?_,h⟩;rw [et2,hsn];exact hz
   ·rw [if_neg (by rw [ht];decide)] at hsn;unfold uO;rw [aE hlt (by omega)];refine next _ hlt ⟨G3,u,l3,?_,h⟩;rw [et2,hsn];exact hu
  ·have e:j=x.right.length:=by omega
   subst e;rw [SK,<- ep2] at hu;unfold EH;refine ⟨_,rfl,u,hu.size,ac (h.ptAt (i:=0) rfl),?_⟩;refine h.put1 (w':=u) hu.size rfl hu.st λF5 h=> ?_;exact ⟨u,hu.size,ac (h.ptAt (i:=1) rfl),⟨u,rfl,hu.le h.le⟩,aa l1 (aa l13 h.le)⟩
 refine ⟨?_,?_⟩
 ·refine h.run (mC hk.le hk.fam.1 hxc hf hd2) λ_ G3 F3 hr3 l3 h=> ?_;obtain ⟨y,rfl,hy⟩:=hr3;refine ⟨y,rfl,ld (h.le _ _ (l3 _ _ q2)) rfl,?_⟩;refine h.new λb5 F4 h=> ?_;exact h.put0 (w':=y) hy.size rfl hy.st λF5 h=>fin l3 hy h
 ·refine h.new λb5 F3 h=> ?_;refine h.run (mC hk.le hk.fam.1 hxc hf hd2) λ_ G3 F4 hr3 l3 h=> ?_;obtain ⟨y,rfl,hy⟩:=hr3;refine ⟨y,rfl,ld (h.le _ _ (l3 _ _ q2)) rfl,?_⟩;exact h.put0 (w':=y) hy.size rfl hy.st λF5 h=>fin l3 hy h
noncomputable def fw (S:Int->Tr) (st:Bool):Tr->List Sy->Tr
 |d,[]=>d
 |d,s::r=>fw S st (if s.t=true then (if st=true then leaf false else d) else ap2 aV d (S s.i)) r
theorem sU (S:Int->Tr) (st:Bool) (s:Sy):∀(r:List Sy) (d:Tr),fw S st d (r++[s])=if s.t=true then (if st=true then leaf false else fw S st d r) else ap2 aV (fw S st d r) (S s.i)
 |[],d=>rfl
 |x::r,d=>by rw [Tm];unfold fw;exact sU S st s r _
theorem cQ {S:Int->Tr} {st:Bool} (hS:Sxs k S):∀(r:List Sy) {d:Tr},Sx k d->Sx k (fw S st d r)/\∀c,(fw S st d r).ev c=true↔d.ev c=true/\∀s∈r,(s.t=true->st=false)/\(s.t=false->(S s.i).ev c=true)
 |[],d,hd=>⟨hd,λc=>⟨λh=>⟨h,λ_ h=>(by cases h)⟩,λh=>h.1⟩⟩
 |s::r,d,hd=>by
  unfold fw;have split:∀{p:Prop} {q:Sy->Prop},(p/\∀y∈s::r,q y)↔(p/\q s)/\∀y∈r,q y:=λ{p q}=>
   ⟨λh=>⟨⟨h.1,h.2 s (by simp)⟩,λy hy=>h.2 y (SN _ hy)⟩,λh=>⟨h.1.1,λy hy=>by
    rcases Sw.1 hy with rfl|hy
    ·exact h.1.2
    ·exact h.2 y hy⟩⟩
  by_cases hs:s.t=true
  ·rw [if_pos hs];by_cases hst:st=true
   ·rw [if_pos hst];obtain ⟨h1,h2⟩:=cQ (st:=st) hS r (Sx.leaf k false);refine ⟨h1,λc=>(h2 c).trans ?_⟩;rw [split];refine and_congr_left λ_=>⟨λh=>(by cases h),λh=> ?_⟩;have:=h.2.1 hs;rw [hst] at this;cases this
   ·rw [if_neg hst];obtain ⟨h1,h2⟩:=cQ (st:=st) hS r hd;refine ⟨h1,λc=>(h2 c).trans ?_⟩;rw [split];refine and_congr_left λ_=>⟨λh=>⟨h,λ_=>Tx.2 hst,λh'=>(by rw [hs] at h';cases h')⟩,λh=>h.1⟩
  ·rw [if_neg hs];obtain ⟨h1,h2⟩:=cQ (st:=st) hS r (hd.ap2 (o:=aV) (hS s.i));refine ⟨h1,λc=>(h2 c).trans ?_⟩;rw [split,(aZ hd.1 (hS s.i).1).2];refine and_congr_left λ_=> ?_;show (d.ev c && (S s.i).ev c)=true↔_;rw [SX];exact and_congr_right λ_=>⟨λh=>⟨λh'=>absurd h' hs,λ_=>h⟩,λh=>h.2 (Tx.2 hs)⟩
theorem qU {S:Int->Tr} {n:Nat} {i:Int} (h0:0<=i) (h1:i<n):(eN S n)[i.toNat]? =some (dia (S i)):=by unfold eN;rw [SQ,Ts (by omega),Tt,Int.toNat_of_nonneg h0]
theorem wB (S:Int->Tr) (n:Nat):(eN S n).length=n:=by unfold eN;rw [SM,Th]
theorem qV {v:Γ} {S:Int->Tr} {st:Bool} {sl:Sl} (hg:GV F v g) (hk:OkK g k) {i:Nat} {x:Pr} (hx:g.prods[i]? =some x) (hS:Sxs k S) (hsl:RL F sl (eN S g.nons.length)):
  aj prog 29 #[.agg v,vi i,sl.v,.bool st] F λr F'=>iw (dia (fw S st (aF g i) x.right)) r F'/\F.le F':=by
 obtain ⟨o1,o2,o3,o4⟩:=eL hk.ok;have hxm:=SE hx;have hxl:=o4 x hxm;have hi:i<g.prods.length:=(N6.1 hx).1;obtain ⟨_,_,_,hsy⟩:=hk.prod hxm;have hg0:=hg;have esl:=hsl.len (by decide);rw [wB] at esl;obtain ⟨c,n,t,s,p,l,f,rfl,hs⟩:=hg;have ep:=hs.p.len (by decide);refine RJ ?_;unfold Pw;refine (St.start F).newG λb4 G1 F1 l1 q4 _ h=>h.new λb8 F2 h=> ?_;refine ⟨_,rfl,ac (h.le _ _ q4),?_⟩;refine h.run (rJ (hg0.le l1) hk hi) λ_ G3 F3 hr3 l3 h=> ?_;obtain ⟨y,rfl,hy⟩:=hr3;refine ⟨y,rfl,?_⟩;refine h.new λb9 F4 h=> ?_;refine h.put0 (w':=y) hy.size rfl hy.st λF5 h=> ?_;have l13:=aa l1 l3;refine bu (yF · (i:Int) sl st b4 b8 b9 _) x.right.length (λj F'=>∃(G':PH) (u:Γ),G3.le G'/\DV G' u (dia (fw S st (aF g i) (x.right.take j)))/\St G' F' [pt b9 (.cells u 31),pt b8 (.cells zD 31)]) ⟨G3,y,aq _,by rw [TF];exact hy,h⟩ ?_;rintro j F6 N hj ⟨G4,u,l4,hu,h⟩ next;have l14:=aa l13 l4;have q44:=l4 _ _ (l3 _ _ q4);unfold yF;refine ⟨_,ld (h.le _ _ q44) rfl,?_⟩;refine ixc (hs.p.le l14) (by decide) (by omega) (by omega) λa19 c19 x' hx' hrow19 hc19=> ?_;rw [N4] at hx' hrow19 ⊢;rw [hx] at hx';cases hx';obtain ⟨r,n8,l8,rfl,hr,_⟩:=hc19;have er:=hr.len (by decide);refine ⟨r,bN (aT h.le hrow19) (i:=2) rfl,λhlt=> ?_,λhge=> ?_⟩
 ·have hlt:j<x.right.length:=by omega
  refine ⟨_,ld (h.le _ _ q44) rfl,?_⟩;refine ixc (hs.p.le l14) (by decide) (by omega) (by omega) λa29 c29 x' hx' hrow29 hc29=> ?_;rw [N4] at hx' hrow29 ⊢;rw [hx] at hx';cases hx';obtain ⟨r',n8',l8',rfl,hr',_⟩:=hc29;have er':=hr'.len (by decide);refine ⟨r',bN (aT h.le hrow29) (i:=2) rfl,?_⟩;refine ixc hr' (by decide) (by omega) (by omega) λa33 c33 sy hsj hrow33 hc33=>⟨c33,Mem.len hc33,aT h.le hrow33,?_⟩;rw [N4] at hsj;obtain rfl:c33=sy.arr:=hc33;obtain ⟨s0,s1,_⟩:=hsy sy (SE hsj);have et2:=cS hsj;have hsn:=sU S st sy (x.right.take j) (aF g i);obtain ⟨fx,_⟩:=cQ (st:=st) hS (x.right.take j) (hk.prs i);refine h.var (by simp [ak]) (λb11 G5 F7 l5 q11 h=> ?_) rfl rfl;have l45:=aa l4 l5;have fin:∀{G' F':PH} {u':Γ},G5.le G'->DV G' u' (dia (fw S st (aF g i) (x.right.take (j+1))))->St G' F' [pt b9 (.cells u' 31),pt b8 (.cells zD 31)]->uQ N (i:Int) sl st b4 b8 b9 (j:Int) (λr F'=>iw (dia (fw S st (aF g i) x.right)) r F'/\F.le F') F':=λ{G' F' u'} l hu' h=>by unfold uQ;rw [aE hlt (by omega)];exact next _ hlt ⟨G',u',aa l45 l,hu',h⟩
  refine ⟨sy.t,ld (h.le _ _ q11) rfl,λht=> ?_,λht=> ?_⟩
  ·rw [if_pos ht] at hsn;have j3:∀{G' F':PH} {u':Γ},G5.le G'->DV G' u' (dia (fw S st (aF g i) (x.right.take (j+1))))->St G' F' [pt b9 (.cells u' 31),pt b8 (.cells zD 31)]->mF N (i:Int) sl st b4 b8 b9 (j:Int) b11 (λr F'=>iw (dia (fw S st (aF g i) x.right)) r F'/\F.le F') F':=λ{G' F' u'} l hu' h=>by unfold mF;exact ⟨_,ld (h.le _ _ (l _ _ q11)) (show sy.arr[0]? =some (.bool sy.t) from rfl),λhc=>(by rw [ht] at hc;cases hc),λ_=>fin l hu' h⟩
   unfold uR;refine ⟨λhst=> ?_,λhst=> ?_⟩
   ·refine (h.call (bX false)).mono ?_;rintro _ F8 ⟨G6,⟨w,rfl,hw,l6⟩,h⟩;refine ⟨w,rfl,?_⟩;refine h.put0 (w':=w) hw.size hu.size hw.st λF9 h=> ?_;refine j3 l6 ?_ h;rw [et2,hsn,if_pos hst];exact hw
   ·refine j3 (aq _) ?_ h;rw [et2,hsn,if_neg (by rw [hst];decide)];exact hu.le l5
  ·rw [if_neg (by rw [ht];decide)] at hsn;have j3:mF N (i:Int) sl st b4 b8 b9 (j:Int) b11 (λr F'=>iw (dia (fw S st (aF g i) x.right)) r F'/\F.le F') F7:=by unfold mF;have hi1:=s1 ht;refine ⟨_,ld (h.le _ _ q11) (show sy.arr[0]? =some (.bool sy.t) from rfl),λ_=> ?_,λhc=>(by rw [ht] at hc;cases hc)⟩;refine ⟨u,hu.size,ac (h.ptAt (i:=0) rfl),sy.i,ld (h.le _ _ q11) rfl,?_⟩;refine ixc (hsl.le (aa l14 l5)) (by decide) s0 (by omega) λa49 c49 dd hdd hrow49 hc49=>⟨c49,Mem.len hc49,aT h.le hrow49,?_⟩;rw [qU s0 hi1] at hdd;cases hdd;refine h.run (P:=λr' G'=>∃y,r'=.tuple #[.agg y,vi 0]/\DV G' y (dia (ap2 aV (fw S st (aF g i) (x.right.take j)) (S sy.i)))) ((gc hk.le fx (hS sy.i) (hu.le l5) (show DV G5 c49 _ from hc49)).mono λr F' ⟨x,a,b,c⟩=>⟨⟨x,a,b⟩,c⟩) λ_ G6 F8 hr6 l6 h=> ?_;obtain ⟨z,rfl,hz⟩:=hr6;refine ⟨_,_,rfl,ld (h.le _ _ (l6 _ _ q11)) rfl,?_⟩;refine h.put0 (w':=z) hz.size hu.size hz.st λF9 h=> ?_;refine fin l6 ?_ h;rw [et2,hsn];exact hz
   unfold uR;exact ⟨λhc=>(by cases hc),λ_=>j3⟩
 ·have e:j=x.right.length:=by omega
  subst e;rw [SK] at hu;unfold EL;refine ⟨u,hu.size,ac (h.ptAt (i:=0) rfl),?_⟩;refine h.put1 (w':=u) hu.size rfl hu.st λF9 h=> ?_;exact ⟨u,hu.size,ac (h.ptAt (i:=1) rfl),⟨u,rfl,hu.le h.le⟩,aa l14 h.le⟩
end
end Go.Proofs.YtcemhghkipgdiaaGreatDoor
