/-
  The diagrams: meets, Within, Disjoint.
-/
import Derived.Test.YtcemhghkipgdiaaGreatDoorBc
import Derived.Test.YtcemhghkipgdiaaGreatDoorAm
import Derived.Test.YtcemhghkipgdiaaGreatDoorAx
import Derived.Test.YtcemhghkipgdiaaGreatDoorEr
import Derived.Test.YtcemhghkipgdiaaGreatDoorGdiagram
namespace Go.Proofs.YtcemhghkipgdiaaGreatDoor
open Go Go.Proofs.Tryz Tr
set_option maxRecDepth 10000
theorem PA:∃b z,SlT 50 63 2 b z:=JU
theorem PB:∃b z,SlT 33 55 13 b z:=⟨_,_,underlying33,M9,Ng,rfl,by decide,by decide⟩
abbrev yB (nm:ByteArray) (left:Int) (r n:Sl) (d:Int):Γ:= #[.string nm,vi left,r.v,n.v,vi d,.bool false,vi 0,.slice none 0 0,.bool false,vi 0,vi 0,vi 0,vi 0]
theorem B7 (l:List Sy) (y:Sy):cat (l.map Sy.arr)++y.arr.toList=cat ((l++[y]).map Sy.arr):=by rw [Ts,ci];simp [cat]
theorem yC {G:PH} (l:List Sy):cU G l (l.map Sy.arr):=by
 induction l with
 |nil=>exact .nil
 |cons x l ih=>exact .cons rfl ih
section
variable {F:PH}
theorem kg {v:Γ} {x:Rw} {sm:Sl} {more:List Ln} (hx:vq F v x) (hm:RL F sm more):aj prog 13 #[.agg v,sm.v] F (LR F (cW x more)):=by
 obtain ⟨_,_,TS⟩:=PA;obtain ⟨_,_,TP⟩:=PB;have em:=hm.len (by decide);have emc:=hm.cap;refine RV ?_;unfold PG;have hvs:v.size=5:=by obtain ⟨⟨a,b,c,rfl,_⟩,_⟩:=hx;rfl
 refine (St.start F).newG λb2 G1 F1 l1 q2 _ h=>h.new λb4 F2 h=>⟨v,hvs,ac (h.le _ _ q2),?_⟩;refine h.run (P:=λr G'=>∃w,r=.agg w/\GV G' w (cX x)) (vz (hx.le l1)) λ_ G3 F3 hr l3 h=> ?_;obtain ⟨w,rfl,hg⟩:=hr;refine ⟨w,rfl,?_⟩;obtain ⟨c,n,t,s,p,l,f,rfl,hgs⟩:=hg;have l13:=aa l1 l3;refine h.new λb5 F4 h=> ?_;refine h.put0 (w':=(cX x).arr c n t s p l f) rfl rfl (by simp [al,Sl.v]) λF5 h=> ?_;have hmin:(more.take 4).length=min 4 more.length:=S6 ..
 refine bC (yM · sm b4 b5 _) (min 4 more.length) (λi F'=>∃(G':PH) (p':Sl),G3.le G'/\GS G' (eg (cX x) 0 ((more.take 4).take i)) c n t s p' l f/\
  ∃Bs,St G' F' ([pt b5 (.cells ((eg (cX x) 0 ((more.take 4).take i)).arr c n t s p' l f) 37),pt b4 (.cells zG 37)]++Bs)) ⟨G3,p,aq _,hgs,[],h⟩ ?_
 rintro i F6 N1 hi ⟨G4,p4,l4,hg4,Bs,h⟩ next;replace h:St G4 F6 [pt b5 (.cells ((eg (cX x) 0 ((more.take 4).take i)).arr c n t s p4 l f) 37),pt b4 (.cells zG 37)]:=h.pick id (λ_ _ _ _ e=>e) λi hi=>by rw [id,SU hi]
 unfold yM;have lg:LG (eg (cX x) 0 ((more.take 4).take i)) i:=by have:=LG.list ((more.take 4).take i) (LG.made x) (by rw [S6,hmin];omega);rw [S6,hmin,S5] at this;rwa [show min i (min 4 more.length)=i by omega] at this
 have done:i=min 4 more.length->uR b4 b5 (LR F (cW x more)) F6:=λe=>by
  have e2:eg (cX x) 0 ((more.take 4).take i)=cW x more:=by unfold cW;rw [SQ (l:=more.take 4) (by omega)]
  rw [e2] at h hg4;unfold uR;refine ⟨_,rfl,ac (h.ptAt (i:=0) rfl),?_⟩;refine h.put1 (w':=(cW x more).arr c n t s p4 l f) rfl rfl (by simp [al,Sl.v]) λF7 h=> ?_;exact ⟨_,rfl,ac (h.ptAt (i:=1) rfl),⟨_,rfl,c,n,t,s,p4,l,f,rfl,hg4.le h.le⟩,aa l13 (aa l4 h.le)⟩
 refine ⟨λhlt=>⟨λhi4=> ?_,λhi4=>done (by omega)⟩,λhlt=>done (by omega)⟩;have hil:i<more.length:=by omega
 have hi4':i<4:=by omega
 obtain ⟨y,hy⟩:∃y,more[i]? =some y:=⟨_,N4 hil⟩;have htake:(more.take 4).take (i+1)=(more.take 4).take i++[y]:=by rw [Ub,TH (by omega),hy];rfl
 have hnext:eg (cX x) 0 ((more.take 4).take (i+1))=nW (eg (cX x) 0 ((more.take 4).take i)) i y:=by rw [htake,i9,S5,S6,hmin,show min i (min 4 more.length)=i by omega]
 generalize eg (cX x) 0 ((more.take 4).take i)=g at*;have es:=hg4.s.len (by decide);have ec:=hg4.c.len (by decide);have ep:=hg4.p.len (by decide);have hc3:=lg.bd.c;have hn0:=lg.bd.n0;have hn3:=lg.bd.n;have hp22:=lg.bd.p;have l14:=aa l13 l4;refine ixc (hm.le l14) (by decide) (by omega) (by omega) λa31 c31 y' hy' hrow31 hc31=> ?_;rw [N5,hy] at hy';cases hy';obtain ⟨ry,rfl,hry,hyl,hyc,_,hyr⟩:=hc31;have ery:=hry.len;rw [SW,To] at ery;refine ⟨(y.left:Int),aX (bo h.le hrow31) rfl,s,ld (h.ptAt (i:=0) rfl) rfl,by omega,?_⟩;have el:Int.tmod (IntKind.i64.wrap (y.left:Int)) (s.len:Int)=((y.left % g.nons.length:Nat):Int):=by rw [es,aP (by omega) (by omega),fF]
 have ecx:IntKind.u8.wrap (IntKind.i64.wrap ((97:Int)+(i:Int)))=((97+i:Nat):Int):=by rw [show (97:Int)+(i:Int)=((97+i:Nat):Int) by omega,aP (by omega) (by omega),vE (by omega)]
 rw [ecx,el];have sz2:(ByteArray.mk #[113]).size+(ByteArray.mk #[UInt8.ofNat (97+i)]).size<=9223372036854775807:=by show 1+1<=9223372036854775807;decide
 have fin:∀{G' F':PH} {b7:Nat},G4.le G'->St G' F' [pt b7 (.cells (yB (eV i) ((y.left % g.nons.length:Nat):Int) Sl.nil Sl.nil 0) 55),pt b5 (.cells (g.arr c n t s p4 l f) 37),pt b4 (.cells zG 37)]->
   uV N1 sm b4 b5 (i:Int) (some (Addr.mk b7 0 none)) (LR F (cW x more)) F':=λ{G' F' b7} l5 h=>by
  unfold uV;refine ixc (hm.le (aa l14 l5)) (by decide) (by omega) (by omega) λa42 c42 y' hy' hrow42 hc42=> ?_;rw [N5,hy] at hy';cases hy';obtain ⟨ry,rfl,hry,hyl,hyc,_,hyr⟩:=hc42;have ery:=hry.len;rw [SW,To] at ery;refine ⟨ry,dx (bo h.le hrow42) (i:=1) rfl,?_⟩;have h:=(h.nilOwn 63 2).swap;have hmr:(y.right.take 3).length=min 3 y.right.length:=S6 ..
  refine bC (yL N1 · sm b4 b5 (i:Int) (some (Addr.mk b7 0 none)) ry _) (min 3 y.right.length) (λk F'=>∃(G'':PH) (sr:Sl),G'.le G''/\sr.len=k/\
   ∃Bs,St G'' F' ([pt b7 (.cells (yB (eV i) ((y.left % g.nons.length:Nat):Int) sr Sl.nil 0) 55),own sr 63 2 (cat ((((y.right.take 3).map (bT g.nons.length)).take k).map Sy.arr)),pt b5 (.cells (g.arr c n t s p4 l f) 37),pt b4 (.cells zG 37)]++Bs)) ⟨G',Sl.nil,aq _,rfl,[],h⟩ ?_
  rintro k F7 N2 hk ⟨G5,sr,l6,hsr,Bs,h⟩ next2;replace h:St G5 F7 [pt b7 (.cells (yB (eV i) ((y.left % g.nons.length:Nat):Int) sr Sl.nil 0) 55),own sr 63 2 (cat ((((y.right.take 3).map (bT g.nons.length)).take k).map Sy.arr)),pt b5 (.cells (g.arr c n t s p4 l f) 37),pt b4 (.cells zG 37)]:=h.pick id (λ_ _ _ _ e=>e) λi hi=>by rw [id,SU hi]
  have l46:=aa l5 l6;unfold yL;have done2:k=min 3 y.right.length->uT N1 sm b4 b5 (i:Int) (some (Addr.mk b7 0 none)) (LR F (cW x more)) F7:=λe=>by
   rw [SQ (by rw [SW,hmr];omega)] at h;obtain ⟨G6,l7,hd,h⟩:=h.swap.pinO;have hsy:RL G6 sr ((y.right.take 3).map (bT g.nons.length)):=⟨_,yC _,hd⟩;have l47:=aa l46 l7;have hg6:=hg4.le l47;unfold uT;refine ixc (hm.le (aa l14 l47)) (by decide) (by omega) (by omega) λa85 c85 y' hy' hrow85 hc85=> ?_;rw [N5,hy] at hy';cases hy';obtain ⟨ry',rfl,_⟩:=hc85;refine ⟨(y.cond:Int),dx (bo h.le hrow85) (i:=2) rfl,c,ld (h.ptAt (i:=1) rfl) rfl,?_⟩;dsimp only;rw [ec];refine h.run (py y.cond g.conds.length hyc (by omega) _) λ_ G7 F8 hr l8 h=> ?_;obtain ⟨⟨_,rfl,hw⟩,-⟩:=hr;obtain ⟨m,rfl,hmm⟩:=hw.out;refine ⟨_,rfl,ld (h.ptAt (i:=1) rfl) rfl,_,rfl,?_⟩;simp only [aC];refine h.putR0 (o:=3) (w':=(mJ g i y).arr sr m Sl.nil) rfl (by simp [al,Sl.v]) (by show 3+2<=13;decide) rfl λF9 h=> ?_;have hP:Mem.rep G7 (mJ g i y) ((mJ g i y).arr sr m Sl.nil):=⟨sr,m,Sl.nil,rfl,hsy.le l8,hmm,RL.nil _⟩;refine ⟨p4,ld (h.ptAt (i:=1) rfl) rfl,_,rfl,ac (h.ptAt (i:=0) rfl),?_⟩;have hg7:=hg6.le l8;refine St.grow TP h hg7.p hP (by omega) rfl (λG' F' st=>ac (st.ptAt (i:=0) rfl)) λs' G8 F10 l9 hs' h=> ?_;have hg8:=hg7.le l9;refine h.set1 (w':=(nW g i y).arr c n t s s' l f) (by show 5<9;decide) rfl λF11 h=> ?_;unfold uS;rw [aG (n:=4) hi4' (by decide)];have hlt':i<min 4 more.length:=by omega
   have hfin:=next F11 hlt';rw [hnext] at hfin;exact hfin ⟨G8,s',aa l4 (aa l47 (aa l8 l9)),⟨hg8.c,hg8.n,hg8.t,hg8.s,hs',hg8.l,hg8.f⟩,_,h.rot⟩
  refine ⟨λhkl=>⟨λhk3=> ?_,λhk3=>done2 (by omega)⟩,λhkl=>done2 (by omega)⟩;have hkr:k<y.right.length:=by omega
  obtain ⟨b,hb⟩:∃b,y.right[k]? =some b:=⟨_,N4 hkr⟩;have hb256:b<256:=hyr b (SP hb);have hsym:((y.right.take 3).map (bT g.nons.length))[k]? =some (bT g.nons.length b):=by rw [SX,TH (by omega),hb];rfl
  have hst:((y.right.take 3).map (bT g.nons.length)).take (k+1)=((y.right.take 3).map (bT g.nons.length)).take k++[bT g.nons.length b]:=by rw [Ub,hsym];rfl
  have hat:∀{G' F':PH} {As:List (Ψ)},G5.le G'->St G' F' As->∃a,ry.base=some a/\0<=(k:Int)/\(k:Int)<(ry.len:Int)/\F'.cell (Addr.add a (Int.toNat (k:Int)*1))=some (vB b):=λl h=>
   (((hry.le l6).le l).le h.le).at6 (by rw [SX,hb];rfl)
  obtain ⟨a57,e1,e2,e3,e4⟩:=hat (aq _) h;refine ⟨a57,e1,e2,e3,(b:Int),e4,s,ld (h.ptAt (i:=2) rfl) rfl,by omega,?_⟩;have eb:Int.tmod (IntKind.i64.wrap (b:Int)) (s.len:Int)=((b % g.nons.length:Nat):Int):=by rw [es,aP (by omega) (by omega),fF]
  have eb9:Int.tmod (IntKind.i64.wrap (b:Int)) (9:Int)=((b % 9:Nat):Int):=by rw [aP (by omega) (by omega)];exact fF b 9
  rw [eb];refine h.new λb10 F8 h=> ?_;refine h.put0 (w':= #[.bool false,vi ((b % g.nons.length:Nat):Int)]) rfl rfl (by simp [al]) λF9 h=> ?_;obtain ⟨a67,f1,f2,f3,f4⟩:=hat (aq _) h;refine ⟨a67,f1,f2,f3,(b:Int),f4,?_⟩;have fin5:∀{F':PH} {sy:Sy},sy=bT g.nons.length b->St G5 F' [pt b10 (.cells sy.arr 63),pt b7 (.cells (yB (eV i) ((y.left % g.nons.length:Nat):Int) sr Sl.nil 0) 55),own sr 63 2 (cat ((((y.right.take 3).map (bT g.nons.length)).take k).map Sy.arr)),pt b5 (.cells (g.arr c n t s p4 l f) 37),pt b4 (.cells zG 37)]->
    uU N1 N2 sm b4 b5 (i:Int) (some (Addr.mk b7 0 none)) ry (k:Int) b10 (LR F (cW x more)) F':=λ{F' sy} esy h=>by
   unfold uU;refine ⟨_,rfl,sr,by rw [aC];exact ld (h.ptAt (i:=1) rfl) rfl,sy.arr,rfl,ac (h.ptAt (i:=0) rfl),rfl,?_⟩;refine h.push2 TS (c:=sy.arr) rfl (by simp [al]) (by omega) λs' G6 F10 l7 h hl'=> ?_;rw [B7,esy,<- hst] at h;simp only [aC];refine h.set1 (w':=yB (eV i) ((y.left % g.nons.length:Nat):Int) s' Sl.nil 0) (by show 2<13;decide) rfl λF11 h=> ?_;rw [aG (n:=3) (by omega) (by decide)];exact next2 _ (by omega) ⟨G6,s',aa l6 l7,by omega,_,h.rot⟩
  refine ⟨λhgt=> ?_,λhle=> ?_⟩
  ·obtain ⟨a72,g1,g2,g3,g4⟩:=hat (aq _) h;refine ⟨a72,g1,g2,g3,(b:Int),g4,?_⟩;dsimp only;rw [eb9];refine h.put0 (w':= #[.bool true,vi ((b % 9:Nat):Int)]) rfl rfl (by simp [al]) λF10 h=> ?_;exact fin5 (sy:=⟨true,((b % 9:Nat):Int)⟩) (by unfold bT;rw [if_pos (by omega)]) h
  ·exact fin5 (sy:=⟨false,((b % g.nons.length:Nat):Int)⟩) (by unfold bT;rw [if_neg (by omega)]) h
 refine ⟨?_,?_⟩
 ·refine h.newG λb26 G5 F7 l5 q26 _ h=> ?_;refine ⟨_,gP (h.le _ _ q26),sz2,?_⟩;refine h.new λb7 F8 h=> ?_;refine h.put0 (w':=yB (eV i) ((y.left % g.nons.length:Nat):Int) Sl.nil Sl.nil 0) rfl rfl (by simp [al,Sl.v,Sl.nil]) λF9 h=> ?_;exact fin l5 h
 ·refine h.new λb7 F8 h=> ?_;refine h.newG λb26 G5 F7 l5 q26 _ h=> ?_;refine ⟨_,gP (h.le _ _ q26),sz2,?_⟩;refine h.put0 (w':=yB (eV i) ((y.left % g.nons.length:Nat):Int) Sl.nil Sl.nil 0) rfl rfl (by simp [al,Sl.v,Sl.nil]) λF9 h=> ?_;exact fin l5 h
end
section
variable {F:PH} {g:Gr} {k:Nat}
theorem EI (S:Int->Tr) (n:Nat):(eB S n).length=n:=by unfold eB;rw [SW,Tu]
end
section
variable {g:Gr} {k:Nat} {q:Nat->Bool}
theorem tc {h:Gr} (e:h.toks=g.toks):∀(r:List Sy) (d:Tr),iF h d r=iF g d r
 |[],_=>rfl
 |s::r,d=>by
  have e2:jG h s.i=jG g s.i:=by unfold jG;rw [e]
  unfold iF;rw [e2];exact tc e r _
theorem B8 {h:Gr} (e:h.toks=g.toks) (ef:h.fam=g.fam) {i j:Nat} {x:Pr} (hi:g.prods[i]? =some x) (hj:h.prods[j]? =some x):aH h j=aH g i:=by unfold aH;rw [hi,hj];dsimp only;rw [tc e,ef]
end
def hit (x y:Tr) (both:Bool):Prop:=∃c,x.ev c=true/\y.ev c=both
theorem PC {t:Tr} (h:t.ok) (hn:t≠leaf false):∃c,t.ev c=true:=by
 apply Classical.byContradiction;intro hne
 exact hn (dZ h trivial λc=>by
  cases hc:t.ev c with
  |true=>exact absurd ⟨c,hc⟩ hne
  |false=>rfl)
theorem EJ {x y:Tr} {both:Bool} {v:Nat} (hx:x.ok) (hy:y.ok) (h1:v<=x.top) (h2:v<=y.top) (hv:v<64):hit x y both↔hit (lo v x) (lo v y) both\/hit (hi v x) (hi v y) both:=by
 obtain ⟨xl1,xl2,_,_,xl⟩:=bF hx h1;obtain ⟨yl1,yl2,_,_,yl⟩:=bF hy h2;obtain ⟨xh1,xh2,_,_,xh⟩:=bG hx h1;obtain ⟨yh1,yh2,_,_,yh⟩:=bG hy h2;constructor
 ·rintro ⟨c,a,b⟩;cases hc:c v with
  |false=>exact .inl ⟨c,by rw [xl c hc];exact a,by rw [yl c hc];exact b⟩
  |true=>exact .inr ⟨c,by rw [xh c hc];exact a,by rw [yh c hc];exact b⟩
 ·rintro (⟨c,a,b⟩|⟨c,a,b⟩)
  ·have hc:(c.set v false) v=false:=by unfold Cf.set;simp
   exact ⟨c.set v false,by rw [<- xl _ hc,fJ xl1 (xl2 hv)];exact a,by rw [<- yl _ hc,fJ yl1 (yl2 hv)];exact b⟩
  ·have hc:(c.set v true) v=true:=by unfold Cf.set;simp
   exact ⟨c.set v true,by rw [<- xh _ hc,fJ xh1 (xh2 hv)];exact a,by rw [<- yh _ hc,fJ yh1 (yh2 hv)];exact b⟩
theorem EL:aB prog 154=true:=by kernel_rfl
section
variable {ta tb:Tr} {both:Bool} {b3 b4 b5 b7 b8 b9:Nat}
abbrev i8 (b3 b4 b5 b7 b8:Nat):Γ:= #[.pointer (some ⟨b5,0,none⟩),.pointer (some ⟨b7,0,none⟩),.pointer (some ⟨b3,0,none⟩),.pointer (some ⟨b4,0,none⟩),.pointer (some ⟨b8,0,none⟩)]
structure ME (E:PH) (ta tb:Tr) (both:Bool) (b3 b4 b5 b7 b8 b9:Nat):Prop where
 c3:∃w,E.row ⟨b3,0,none⟩ w/\DV E w (dia ta)
 c4:∃w,E.row ⟨b4,0,none⟩ w/\DV E w (dia tb)
 c5:E.cell ⟨b5,0,none⟩=some (.bool both)
 c7:E.cell ⟨b7,0,none⟩=some (.map (some b9))
 c8:E.cell ⟨b8,0,none⟩=some (.func (.func 154) #[] (i8 b3 b4 b5 b7 b8))
def ki (ta tb x y:Tr):Int×Int:=((num (aO ta) x:Int),(num (aO tb) y:Int))
structure MS (E F:PH) (b9:Nat) (m:Int×Int->Option Value):Prop where
 le:E.le F
 n9:E b9=none
 mp:∃o,F b9=some o/\dy bK m o
 val:∀k v,m k=some v->v=.bool true
theorem MS.upto {E F G:PH} {m:Int×Int->Option Value} (h:MS E F b9 m) (hl:F.le G):MS E G b9 m:=by obtain ⟨h1,h2,⟨o,h3,h4⟩,h5⟩:=h;exact ⟨h1.trans hl,h2,⟨o,hl _ _ h3,h4⟩,h5⟩
def MOK (ta tb:Tr) (both:Bool) (n:Nat) (m:Int×Int->Option Value):Prop:=∀x y,inn (aO ta) x->inn (aO tb) y->m (ki ta tb x y)≠none->x.sz+y.sz<=n->¬hit x y both
def PD (ta tb:Tr) (both:Bool) (m m':Int×Int->Option Value):Prop:=∀x y,inn (aO ta) x->inn (aO tb) y->m' (ki ta tb x y)≠none->m (ki ta tb x y)≠none\/¬hit x y both
def JR (ta tb:Tr) (both:Bool) (b3 b4 b5 b7 b8 b9:Nat) (x y:Tr):Prop:=∀(E F:PH) (m:Int×Int->Option Value),ME E ta tb both b3 b4 b5 b7 b8 b9->MS E F b9 m->MOK ta tb both (x.sz+y.sz) m->
 aj prog 154 (#[vi (num (aO ta) x),vi (num (aO tb) y)]++i8 b3 b4 b5 b7 b8) F λr F'=>∃h m',r=.bool h/\MS E F' b9 m'/\(h=true->hit x y both)/\(h=false->¬hit x y both/\PD ta tb both m m')
theorem yD {x y:Tr} {E F:PH} {m:Int×Int->Option Value} (ka:ta.ok) (kb:tb.ok) (fa:Fit ((aO ta).length+2)) (fb:Fit ((aO tb).length+2)) (ix:inn (aO ta) x) (iy:inn (aO tb) y)
  (ih:∀x' y',inn (aO ta) x'->inn (aO tb) y'->x'.sz+y'.sz<x.sz+y.sz->JR ta tb both b3 b4 b5 b7 b8 b9 x' y')
  (he:ME E ta tb both b3 b4 b5 b7 b8 b9) (hs:MS E F b9 m) (ho:MOK ta tb both (x.sz+y.sz) m) (hx:x≠leaf false) (hy:∀b,y=leaf b->b=both):
  oF (num (aO ta) x) (num (aO tb) y) (some ⟨b7,0,none⟩) (some ⟨b3,0,none⟩) (some ⟨b4,0,none⟩) (some ⟨b8,0,none⟩)
   (λr F'=>∃h m',r=.bool h/\MS E F' b9 m'/\(h=true->hit x y both)/\(h=false->¬hit x y both/\PD ta tb both m m')) F:=by
 have cla:=bu ka;have clb:=bu kb;have okx:=cla.inn_ok ix;have oky:=clb.inn_ok iy;unfold oF;refine ⟨λh=> ?_,λh=> ?_⟩
 ·have hl:=jm (S:=aO tb) (t:=y) (by omega);cases y with
  |node _ _ _=>cases hl
  |leaf b=>obtain rfl:=hy b rfl;obtain ⟨c,hc⟩:=PC okx hx;exact ⟨true,m,rfl,hs,λ_=>⟨c,hc,rfl⟩,λh=>by cases h⟩
 ·have nly:y.isL=false:=by
   cases y with
   |node _ _ _=>rfl
   |leaf b=>have:=cK (aO tb) b;omega
  have hty:=mq oky nly;obtain ⟨o,hm,hmo⟩:=hs.mp;have hlk:=bA (F:=F) mt2 hm hmo (ki ta tb x y) false;rw [if_neg (by simp)] at hlk;refine ⟨_,rfl,_,aF hs.le he.c7,?_⟩;cases hmk:m (ki ta tb x y) with
  |some w=>rw [hmk] at hlk;obtain rfl:=hs.val _ _ hmk;refine ⟨true,hlk,λ_=>⟨false,m,rfl,hs,λh=>(by cases h),λ_=>⟨ho x y ix iy (by rw [hmk];simp) (SM _),λx' y' _ _ h=> .inl h⟩⟩,λh=>by cases h⟩
  |none=>
   rw [hmk] at hlk;refine ⟨false,hlk,λh=>(by cases h),λ_=>⟨_,aF hs.le he.c7,?_⟩⟩;refine aQ mt2 hm hmo (ki ta tb x y) _ λo' ho'=> ?_
   have hs1:MS E (F.set b9 o') b9 (λk'=>if k'=ki ta tb x y then some (.bool true) else m k'):=⟨aw hs.le hs.n9,hs.n9,⟨o',ak _ _ _,ho'⟩,λk v hk=>by
    by_cases hkk:k=ki ta tb x y
    ·rw [if_pos hkk] at hk;exact (Ta hk).symm
    ·rw [if_neg hkk] at hk;exact hs.val _ _ hk⟩
   have mem1:∀x' y',inn (aO ta) x'->inn (aO tb) y'->(if ki ta tb x' y'=ki ta tb x y then some (Value.bool true) else m (ki ta tb x' y'))≠none->(x'=x/\y'=y)\/m (ki ta tb x' y')≠none:=λx' y' ix' iy' h=>by
    by_cases hkk:ki ta tb x' y'=ki ta tb x y
    ·unfold ki at hkk;simp only [Uu] at hkk;exact .inl ⟨bV ix' ix (by omega),bV iy' iy (by omega)⟩
    ·rw [if_neg hkk] at h;exact .inr h
   generalize F.set b9 o'=F1 at*;obtain ⟨w3,r3,d3⟩:=he.c3;obtain ⟨w4,r4,d4⟩:=he.c4;have f3:Fit ((dia ta).1.length+2):=by show Fit ((brs (aO ta)).length+2);rw [aL];exact fa
   have f4:Fit ((dia tb).1.length+2):=by show Fit ((brs (aO tb)).length+2);rw [aL];exact fb
   refine ⟨_,rfl,w3,d3.size,bo hs1.le r3,_,rfl,w4,d4.size,bo hs1.le r4,?_⟩;refine (dg (S:=aO ta) (d3.le hs1.le) (TM _) ix f3).mono ?_;rintro _ F2 ⟨rfl,l2⟩;have hs2:=hs1.upto l2;refine ⟨_,rfl,bo hs2.le r4,?_⟩;refine (dg (S:=aO tb) (d4.le hs2.le) (TM _) iy f4).mono ?_;rintro _ F3 ⟨rfl,l3⟩;have hs3:=hs2.upto l3;refine ⟨_,rfl,w3,d3.size,bo hs3.le r3,?_⟩;have hmin:min (x.top:Int) (y.top:Int)=((min x.top y.top:Nat):Int):=by omega
   rw [hmin];have vx:min x.top y.top<=x.top:=by omega
   have vy:min x.top y.top<=y.top:=by omega
   have hv:min x.top y.top<64:=by omega
   have hcase:min x.top y.top=x.top\/min x.top y.top=y.top:=by omega
   generalize min x.top y.top=v at*;refine (kf (S:=aO ta) (d3.le hs3.le) (TM _) ix f3 hv).mono ?_;rintro _ F4 ⟨rfl,l4⟩;have hs4:=hs3.upto l4;refine ⟨_,_,rfl,w4,d4.size,bo hs4.le r4,?_⟩;refine (kf (S:=aO tb) (d4.le hs4.le) (TM _) iy f4 hv).mono ?_;rintro _ F5 ⟨rfl,l5⟩;have hs5:=hs4.upto l5;clear hs4 hs3 hs2 hs1;obtain ⟨_,_,xs1,xs2,_⟩:=bF okx vx;obtain ⟨_,_,ys1,ys2,_⟩:=bF oky vy;obtain ⟨_,_,xs3,xs4,_⟩:=bG okx vx;obtain ⟨_,_,ys3,ys4,_⟩:=bG oky vy;have nl:∀{t:Tr},v=t.top->t.isL=false:=λ{t} e=>by
    cases t with
    |leaf b=>simp only [top] at e;omega
    |node _ _ _=>rfl
   have sl:(lo v x).sz+(lo v y).sz<x.sz+y.sz:=by
    rcases hcase with e|e
    ·have:=xs2 e.symm (nl e);omega
    ·have:=ys2 e.symm (nl e);omega
   have sh:(hi v x).sz+(hi v y).sz<x.sz+y.sz:=by
    rcases hcase with e|e
    ·have:=xs4 e.symm (nl e);omega
    ·have:=ys4 e.symm (nl e);omega
   have step:=EJ (both:=both) okx oky vx vy hv;have ilx:=cla.inn_lo ix v;have ily:=clb.inn_lo iy v;have ihx:=cla.inn_hi ix v;have ihy:=clb.inn_hi iy v;refine ⟨_,_,rfl,_,rfl,_,aF hs5.le he.c8,_,_,_,rfl,EL,?_⟩;refine (ih _ _ ilx ily sl E F5 _ he hs5 (λx' y' ix' iy' h hsz=> ?_)).mono ?_
   ·rcases mem1 x' y' ix' iy' h with ⟨rfl,rfl⟩|h
    ·omega
    ·exact ho x' y' ix' iy' h (by omega)
   rintro _ F6 ⟨h1,m1,rfl,hs6,ht1,hf1⟩;refine ⟨_,rfl,λh=>⟨true,m1,rfl,hs6,λ_=>step.2 (.inl (ht1 h)),λh=>by cases h⟩,λh=> ?_⟩;obtain ⟨n1,a1⟩:=hf1 h;refine ⟨_,aF hs6.le he.c8,_,_,_,rfl,EL,?_⟩;refine (ih _ _ ihx ihy sh E F6 _ he hs6 (λx' y' ix' iy' h hsz=> ?_)).mono ?_
   ·rcases a1 x' y' ix' iy' h with h|h
    ·rcases mem1 x' y' ix' iy' h with ⟨rfl,rfl⟩|h
     ·omega
     ·exact ho x' y' ix' iy' h (by omega)
    ·exact h
   rintro _ F7 ⟨h2,m2,rfl,hs7,ht2,hf2⟩;refine ⟨_,rfl,h2,m2,rfl,hs7,λh=>step.2 (.inr (ht2 h)),λh=> ?_⟩;obtain ⟨n2,a2⟩:=hf2 h;have nxy:¬hit x y both:=λhh=>(step.1 hh).elim n1 n2;refine ⟨nxy,λx' y' ix' iy' h=> ?_⟩;rcases a2 x' y' ix' iy' h with h|h
   ·rcases a1 x' y' ix' iy' h with h|h
    ·rcases mem1 x' y' ix' iy' h with ⟨rfl,rfl⟩|h
     ·exact .inr nxy
     ·exact .inl h
    ·exact .inr h
   ·exact .inr h
theorem EM (ka:ta.ok) (kb:tb.ok) (fa:Fit ((aO ta).length+2)) (fb:Fit ((aO tb).length+2)):∀(n:Nat) (x y:Tr),x.sz+y.sz<=n->inn (aO ta) x->inn (aO tb) y->JR ta tb both b3 b4 b5 b7 b8 b9 x y:=by
 intro n;induction n with
 |zero=>intro x y hn;have:=iU x;omega
 |succ n ih=>
  intro x y hn ix iy E F m he hs ho;show aj prog 154 #[vi (num (aO ta) x),vi (num (aO tb) y),_,_,_,_,_] F _;refine NU ?_;unfold IV;have rest:x≠leaf false->(∀b,y=leaf b->b=both)->_:=λhx hy=>yD (b3:=b3) (b4:=b4) (b5:=b5) (b7:=b7) (b8:=b8) ka kb fa fb ix iy (λx' y' ix' iy' h=>ih x' y' (by omega) ix' iy') he hs ho hx hy;refine ⟨λh=> ?_,λh=> ?_⟩
  ·have e:x=leaf false:=bV (S:=aO ta) ix (.inl rfl) (by rw [kL];simpa using h);subst e;exact ⟨false,m,rfl,hs,λh=>(by cases h),λ_=>⟨λ⟨c,h,_⟩=>(by cases h),λx' y' _ _ h=> .inl h⟩⟩
  ·have hx:x≠leaf false:=λe=>h (by rw [e,kL];rfl);refine ⟨λh2=> ?_,λh2=>rest hx λb hb=> ?_⟩
   ·have hl:=jm (S:=aO tb) (t:=y) (by omega);cases y with
    |node _ _ _=>cases hl
    |leaf b=>
     have eb:decide ((num (aO tb) (leaf b):Int)=1)=b:=by rw [kL];cases b<;>simp
     refine ⟨_,rfl,both,aF hs.le he.c5,?_⟩;rw [eb];refine ⟨λh3=> ?_,λh3=>rest hx λb' hb'=> ?_⟩
     ·refine ⟨false,m,rfl,hs,λh=>(by cases h),λ_=>⟨λ⟨c,_,hc⟩=> ?_,λx' y' _ _ h=> .inl h⟩⟩;have hc':b=both:=hc;rw [hc'] at h3;simp at h3
     ·cases hb';simpa using h3
   ·rw [hb,kL] at h2;exfalso;revert h2;split<;>omega
end
open Classical in
noncomputable def wF (x y:Tr) (both:Bool):Bool:=decide (hit x y both)
theorem qZ {x y:Tr} {both:Bool}:wF x y both=true↔hit x y both:=by unfold wF;simp
theorem yF {F:PH} {v w:Γ} {ta tb:Tr} {both:Bool} (ha:DV F v (dia ta)) (hb:DV F w (dia tb)) (ka:ta.ok) (kb:tb.ok) (fa:Fit ((aO ta).length+2)) (fb:Fit ((aO tb).length+2)):
  aj prog 96 #[.agg v,.agg w,.bool both] F λr F'=>r=.bool (wF ta tb both)/\F.le F':=by
 refine Rf ?_;unfold NP;intro b3 hb3;refine atI ?_;have l3:=ae (.cells v 31) hb3;have q3:=ak F b3 (.cells v 31);generalize F.set b3 (.cells v 31)=F3 at*;intro b4 hb4;refine atI ?_;have lx:=ae (.cells w 31) hb4;have q4:=ak F3 b4 (.cells w 31);replace q3:=lx _ _ q3;have l4:=l3.trans lx;clear lx;generalize F3.set b4 (.cells w 31)=F4 at*;intro b5 hb5;refine atI ?_;have lx:=ae (.cells #[Value.bool both] 4) hb5;have q5:=ak F4 b5 (.cells #[Value.bool both] 4);replace q3:=lx _ _ q3;replace q4:=lx _ _ q4;have l5:=l4.trans lx;clear lx;generalize F4.set b5 (.cells #[Value.bool both] 4)=F5 at*;intro b9 hb9;refine atI ?_;intro b7 hb7;refine atI ?_;refine st1 (ak _ _ _) (by simp) ?_;rw [aY,show (#[Value.map none].setIfInBounds (Addr.mk b7 0 none).off (Value.map (some b9)):Γ)= #[Value.map (some b9)] from rfl];intro b8 hb8;refine atI ?_;refine st1 (ak _ _ _) (by simp) ?_;rw [aY];have n97:b9≠b7:=aE hb7 (ak _ _ _);have n98:b9≠b8:=λe=>by rw [e] at hb8;rw [<- e,au _ _ n97,ak] at hb8;cases hb8
 have n78:b7≠b8:=aE hb8 (ak _ _ _);have h57:F5 b7=none:=by rw [au _ _ (Ne.symm n97)] at hb7;exact hb7
 have h58:F5 b8=none:=by rw [au _ _ (Ne.symm n78),au _ _ (Ne.symm n98)] at hb8;exact hb8
 have hE7:=ae (.cells #[Value.map (some b9)] 189) h57;have h78:(F5.set b7 (.cells #[Value.map (some b9)] 189)) b8=none:=by rw [au _ _ (Ne.symm n78)];exact h58
 have hE8:=hE7.trans (ae (.cells #[Value.func (.func 154) #[] (i8 b3 b4 b5 b7 b8)] 190) h78);have e7:((F5.set b7 (.cells #[Value.map (some b9)] 189)).set b8 (.cells #[Value.func (.func 154) #[] (i8 b3 b4 b5 b7 b8)] 190)) b7=some (.cells #[Value.map (some b9)] 189):=by rw [au _ _ n78,ak]
 have e8:=ak (F5.set b7 (.cells #[Value.map (some b9)] 189)) b8 (.cells #[Value.func (.func 154) #[] (i8 b3 b4 b5 b7 b8)] 190);have e9:((F5.set b7 (.cells #[Value.map (some b9)] 189)).set b8 (.cells #[Value.func (.func 154) #[] (i8 b3 b4 b5 b7 b8)] 190)) b9=none:=by rw [au _ _ n98,au _ _ n97];exact hb9
 have hs0:MS ((F5.set b7 (.cells #[Value.map (some b9)] 189)).set b8 (.cells #[Value.func (.func 154) #[] (i8 b3 b4 b5 b7 b8)] 190))
   (((F5.set b9 (.map #[] 0)).set b7 (.cells #[Value.map (some b9)] 189)).set b8 (.cells #[Value.func (.func 154) #[] (i8 b3 b4 b5 b7 b8)] 190)) b9 (λ_=>none):=by
  refine ⟨λz ob hz=> ?_,e9,⟨_,by rw [au _ _ n98,au _ _ n97,ak],dy.empty bK⟩,λk v h=>by cases h⟩;by_cases h8:z=b8
  ·subst h8;rw [ak] at hz ⊢;exact hz
  ·rw [au _ _ h8] at hz ⊢;by_cases h7:z=b7
   ·subst h7;rw [ak] at hz ⊢;exact hz
   ·rw [au _ _ h7] at hz ⊢;rw [au _ _ (aE hb9 hz)];exact hz
 rw [show (#[Value.nilFunc].setIfInBounds 0 (Value.func (.func 154) #[] #[.pointer (some ⟨b5,0,none⟩),.pointer (some ⟨b7,0,none⟩),.pointer (some ⟨b3,0,none⟩),.pointer (some ⟨b4,0,none⟩),.pointer (some ⟨b8,0,none⟩)]):Γ)= #[Value.func (.func 154) #[] (i8 b3 b4 b5 b7 b8)] from rfl];generalize (F5.set b7 (.cells #[Value.map (some b9)] 189)).set b8 (.cells #[Value.func (.func 154) #[] (i8 b3 b4 b5 b7 b8)] 190)=E at*;generalize ((F5.set b9 (.map #[] 0)).set b7 (.cells #[Value.map (some b9)] 189)).set b8 (.cells #[Value.func (.func 154) #[] (i8 b3 b4 b5 b7 b8)] 190)=F8 at*;have lE:=l5.trans hE8;have he:ME E ta tb both b3 b4 b5 b7 b8 b9:=⟨⟨v,ac (hE8 _ _ q3),ha.le lE⟩,⟨w,ac (hE8 _ _ q4),hb.le lE⟩,by rw [am (hE8 _ _ q5)];rfl,by rw [am e7];rfl,by rw [am e8];rfl⟩;have ha':=ha;have hb':=hb;obtain ⟨s,rfl,_⟩:=ha;obtain ⟨u,rfl,_⟩:=hb;refine ⟨_,aF hs0.le he.c8,(num (aO ta) ta:Int),by rw [am (hs0.le _ _ (hE8 _ _ q3))];rfl,(num (aO tb) tb:Int),by rw [am (hs0.le _ _ (hE8 _ _ q4))];rfl,_,_,_,rfl,EL,?_⟩;refine (EM ka kb fa fb _ ta tb (SM _) (bH ka) (bH kb) E F8 _ he hs0 (λx y _ _ h=>absurd rfl h)).mono ?_;rintro _ F9 ⟨h,m',rfl,hs9,ht,hf⟩;refine ⟨_,rfl,?_,lE.trans hs9.le⟩;cases h with
 |true=>rw [qZ.2 (ht rfl)]
 |false=>rw [TL.2 λhc=>(hf rfl).1 (qZ.1 hc)]
section
variable {F:PH} {v w:Γ} {a b:Dia}
noncomputable def te (a b:Dia) (both:Bool):Bool:=if j7 [a,b]≠0 then false else !wF (tre a) (tre b) both
theorem wG (ha:DV F v a) (hb:DV F w b):aj prog 37 #[.agg v,.agg w] F λr F'=>r=.bool (te a b false)/\F.le F':=by
 have ha':=ha;have hb':=hb;obtain ⟨s,rfl,hr⟩:=ha;obtain ⟨t,rfl,ht⟩:=hb;refine Ra ?_;unfold NK;intro b3 hb3;refine atI ?_;have l3:=ae (.cells #[s.v,vi a.2] 31) hb3;have q3:=ak F b3 (.cells #[s.v,vi a.2] 31);generalize F.set b3 (.cells #[s.v,vi a.2] 31)=F3 at*;intro b4 hb4;refine atI ?_;have lx:=ae (.cells #[t.v,vi b.2] 31) hb4;have q4:=ak F3 b4 (.cells #[t.v,vi b.2] 31);replace q3:=lx _ _ q3;have l4:=l3.trans lx;clear lx;generalize F3.set b4 (.cells #[t.v,vi b.2] 31)=F4 at*;refine ⟨#[s.v,vi a.2],rfl,ac q3,#[t.v,vi b.2],rfl,ac q4,rfl,rfl,λb11 hb11=> ?_⟩;refine atI ?_;have e11:wr (wr (#[Value.slice none 0 0,vi 0,Value.slice none 0 0,vi 0]:Γ) 0 (#[s.v,vi a.2]:Γ).toList) 2 (#[t.v,vi b.2]:Γ).toList= #[s.v,vi a.2,t.v,vi b.2]:=rfl;rw [e11];have lx:=ae (.cells #[s.v,vi a.2,t.v,vi b.2] 31) hb11;have q11:=ak F4 b11 (.cells #[s.v,vi a.2,t.v,vi b.2] 31);replace q3:=lx _ _ q3;replace q4:=lx _ _ q4;have l11:=l4.trans lx;clear lx;generalize F4.set b11 (.cells #[s.v,vi a.2,t.v,vi b.2] 31)=F7 at*;refine (nC (F:=F7) (x:=b11) (dd:=[a,b]) (n:=2) rfl (by omega) (λi hi=> ?_)).mono ?_
 ·have row:∀(j:Nat) (s':Sl) (r:Int),(#[s.v,vi a.2,t.v,vi b.2]:Γ)[j]? =some s'.v->(#[s.v,vi a.2,t.v,vi b.2]:Γ)[j+1]? =some (vi r)->F7.row ⟨b11,j,none⟩ #[s'.v,vi r]:=λj s' r h1 h2 i hi=>by
   simp only [aC];rw [am q11]
   match i,hi with
   |0,_=>simpa using h1
   |1,_=>simpa using h2
  match i,hi with
  |0,_=>exact ⟨_,row 0 s _ rfl rfl,ha'.le l11⟩
  |1,_=>exact ⟨_,row 2 t _ rfl rfl,hb'.le l11⟩
 rintro _ F8 ⟨rfl,l8⟩;replace q3:=l8 _ _ q3;replace q4:=l8 _ _ q4;have l18:=l11.trans l8;refine ⟨_,rfl,λhc=> ?_,λhc=> ?_⟩
 ·obtain ⟨hca,hcb⟩:=Je (a:=a) (b:=b) (by omega);obtain ⟨ka,ea,la⟩:=DY hca;obtain ⟨kb,eb,lb⟩:=DY hcb;have sa:=kU hca;have sb:=kU hcb;refine ⟨#[s.v,vi a.2],rfl,ac q3,#[t.v,vi b.2],rfl,ac q4,?_⟩;have da:DV F8 #[s.v,vi a.2] (dia (tre a)):=by rw [<- ea];exact ha'.le l18
  have db:DV F8 #[t.v,vi b.2] (dia (tre b)):=by rw [<- eb];exact hb'.le l18
  have hm:te a b false= !wF (tre a) (tre b) false:=by unfold te;rw [if_neg (by omega)]
  rw [hm];refine (yF (both:=false) da db ka kb (by omega) (by omega)).mono ?_;rintro _ F9 ⟨rfl,l9⟩;exact ⟨_,rfl,rfl,l18.trans l9⟩
 ·refine ⟨?_,l18⟩;unfold te;rw [if_pos hc]
end
end Go.Proofs.YtcemhghkipgdiaaGreatDoor
