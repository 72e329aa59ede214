/-
  FactsPerConfiguration: the walk.
-/
import Derived.Test.YtcemhghkipgdiaaGreatDoorBc
import Derived.Test.YtcemhghkipgdiaaGreatDoorAm
import Derived.Test.YtcemhghkipgdiaaGreatDoorAy
import Derived.Test.YtcemhghkipgdiaaGreatDoorEl
import Derived.Test.YtcemhghkipgdiaaGreatDoorGdiagram
import Derived.Test.YtcemhghkipgdiaaGreatDoorEs
import Derived.Test.YtcemhghkipgdiaaGreatDoorAt
import Derived.Test.YtcemhghkipgdiaaGreatDoorCc
import Derived.Test.YtcemhghkipgdiaaGreatDoorAc
import Derived.Test.YtcemhghkipgdiaaGreatDoorHm
namespace Go.Proofs.YtcemhghkipgdiaaGreatDoor
open Go Go.Proofs.Tryz Tr
set_option maxRecDepth 10000
theorem Rt:∃b z,SlT 50 63 2 b z:=LL
theorem Rv:∃b z,SlT 33 55 13 b z:=⟨_,_,underlying33,OH,ON,rfl,by decide,by decide⟩
abbrev zR (nm:ByteArray) (left:Int) (r n:Sl) (d:Int):Γ:= #[.string nm,vi left,r.v,n.v,vi d,.bool false,vi 0,.slice none 0 0,.bool false,vi 0,vi 0,vi 0,vi 0]
theorem De (l:List Sy) (y:Sy):cat (l.map Sy.arr)++y.arr.toList=cat ((l++[y]).map Sy.arr):=by rw [Vm,bF];simp [cat]
theorem zS {G:PH} (l:List Sy):cN G l (l.map Sy.arr):=by
 induction l with
 |nil=>exact .nil
 |cons x l ih=>exact .cons rfl ih
section
variable {F:PH}
theorem zU {v:Γ} {x:Rw} {sm:Sl} {more:List Ln} (hx:yo F v x) (hm:RL F sm more):ai prog 13 #[.agg v,sm.v] F (LR F (ga x more)):=by
 obtain ⟨_,_,TS⟩:=Rt;obtain ⟨_,_,TP⟩:=Rv;have em:=hm.len (by decide);have emc:=hm.cap;refine Uh ?_;unfold RN;have hvs:v.size=5:=by obtain ⟨⟨a,b,c,rfl,_⟩,_⟩:=hx;rfl
 refine (St.start F).newG λb2 G1 F1 l1 q2 _ h=>h.new λb4 F2 h=>⟨v,hvs,ac (h.le _ _ q2),?_⟩;refine h.run (P:=λr G'=>∃w,r=.agg w/\GV G' w (dp x)) (wP (hx.le l1)) λ_ G3 F3 hr l3 h=> ?_;obtain ⟨w,rfl,hg⟩:=hr;refine ⟨w,rfl,?_⟩;obtain ⟨c,n,t,s,p,l,f,rfl,hgs⟩:=hg;have l13:=aa l1 l3;refine h.new λb5 F4 h=> ?_;refine h.put0 (w':=(dp x).arr c n t s p l f) rfl rfl (by simp [ak,Sl.v]) λF5 h=> ?_;have hmin:(more.take 4).length=min 4 more.length:=Vb ..
 refine bz (Ad · sm b4 b5 _) (min 4 more.length) (λi F'=>∃(G':PH) (p':Sl),G3.le G'/\GS G' (eS (dp x) 0 ((more.take 4).take i)) c n t s p' l f/\
  ∃Bs,St G' F' ([pt b5 (.cells ((eS (dp x) 0 ((more.take 4).take i)).arr c n t s p' l f) 37),pt b4 (.cells zG 37)]++Bs)) ⟨G3,p,aq _,hgs,[],h⟩ ?_
 rintro i F6 N1 hi ⟨G4,p4,l4,hg4,Bs,h⟩ next;replace h:St G4 F6 [pt b5 (.cells ((eS (dp x) 0 ((more.take 4).take i)).arr c n t s p4 l f) 37),pt b4 (.cells zG 37)]:=h.pick id (λ_ _ _ _ e=>e) λi hi=>by rw [id,U9 hi]
 unfold Ad;have lg:LG (eS (dp x) 0 ((more.take 4).take i)) i:=by have:=LG.list ((more.take 4).take i) (LG.made x) (by rw [Vb,hmin];omega);rw [Vb,hmin,Vd] at this;rwa [show min i (min 4 more.length)=i by omega] at this
 have done:i=min 4 more.length->wa b4 b5 (LR F (ga x more)) F6:=λe=>by
  have e2:eS (dp x) 0 ((more.take 4).take i)=ga x more:=by unfold ga;rw [UZ (l:=more.take 4) (by omega)]
  rw [e2] at h hg4;unfold wa;refine ⟨_,rfl,ac (h.ptAt (i:=0) rfl),?_⟩;refine h.put1 (w':=(ga x more).arr c n t s p4 l f) rfl rfl (by simp [ak,Sl.v]) λF7 h=> ?_;exact ⟨_,rfl,ac (h.ptAt (i:=1) rfl),⟨_,rfl,c,n,t,s,p4,l,f,rfl,hg4.le h.le⟩,aa l13 (aa l4 h.le)⟩
 refine ⟨λhlt=>⟨λhi4=> ?_,λhi4=>done (by omega)⟩,λhlt=>done (by omega)⟩;have hil:i<more.length:=by omega
 have hi4':i<4:=by omega
 obtain ⟨y,hy⟩:∃y,more[i]? =some y:=⟨_,N5 hil⟩;have htake:(more.take 4).take (i+1)=(more.take 4).take i++[y]:=by rw [V7,VN (by omega),hy];rfl
 have hnext:eS (dp x) 0 ((more.take 4).take (i+1))=Gw (eS (dp x) 0 ((more.take 4).take i)) i y:=by rw [htake,oG,Vd,Vb,hmin,show min i (min 4 more.length)=i by omega]
 generalize eS (dp x) 0 ((more.take 4).take i)=g at*;have es:=hg4.s.len (by decide);have ec:=hg4.c.len (by decide);have ep:=hg4.p.len (by decide);have hc3:=lg.bd.c;have hn0:=lg.bd.n0;have hn3:=lg.bd.n;have hp22:=lg.bd.p;have l14:=aa l13 l4;refine ixc (hm.le l14) (by decide) (by omega) (by omega) λa31 c31 y' hy' hrow31 hc31=> ?_;rw [N4,hy] at hy';cases hy';obtain ⟨ry,rfl,hry,hyl,hyc,_,hyr⟩:=hc31;have ery:=hry.len;rw [U6,Vs] at ery;refine ⟨(y.left:Int),be (bJ h.le hrow31) rfl,s,ld (h.ptAt (i:=0) rfl) rfl,by omega,?_⟩;have el:Int.tmod (IntKind.i64.wrap (y.left:Int)) (s.len:Int)=((y.left % g.nons.length:Nat):Int):=by rw [es,aS (by omega) (by omega),fV]
 have ecx:IntKind.u8.wrap (IntKind.i64.wrap ((97:Int)+(i:Int)))=((97+i:Nat):Int):=by rw [show (97:Int)+(i:Int)=((97+i:Nat):Int) by omega,aS (by omega) (by omega),wT (by omega)]
 rw [ecx,el];have sz2:(ByteArray.mk #[113]).size+(ByteArray.mk #[UInt8.ofNat (97+i)]).size<=9223372036854775807:=by show 1+1<=9223372036854775807;decide
 have fin:∀{G' F':PH} {b7:Nat},G4.le G'->St G' F' [pt b7 (.cells (zR (fw i) ((y.left % g.nons.length:Nat):Int) Sl.nil Sl.nil 0) 55),pt b5 (.cells (g.arr c n t s p4 l f) 37),pt b4 (.cells zG 37)]->
   wg N1 sm b4 b5 (i:Int) (some (Addr.mk b7 0 none)) (LR F (ga x more)) F':=λ{G' F' b7} l5 h=>by
  unfold wg;refine ixc (hm.le (aa l14 l5)) (by decide) (by omega) (by omega) λa42 c42 y' hy' hrow42 hc42=> ?_;rw [N4,hy] at hy';cases hy';obtain ⟨ry,rfl,hry,hyl,hyc,_,hyr⟩:=hc42;have ery:=hry.len;rw [U6,Vs] at ery;refine ⟨ry,dc (bJ h.le hrow42) (i:=1) rfl,?_⟩;have h:=(h.nilOwn 63 2).swap;have hmr:(y.right.take 3).length=min 3 y.right.length:=Vb ..
  refine bz (Ac N1 · sm b4 b5 (i:Int) (some (Addr.mk b7 0 none)) ry _) (min 3 y.right.length) (λk F'=>∃(G'':PH) (sr:Sl),G'.le G''/\sr.len=k/\
   ∃Bs,St G'' F' ([pt b7 (.cells (zR (fw i) ((y.left % g.nons.length:Nat):Int) sr Sl.nil 0) 55),own sr 63 2 (cat ((((y.right.take 3).map (bX g.nons.length)).take k).map Sy.arr)),pt b5 (.cells (g.arr c n t s p4 l f) 37),pt b4 (.cells zG 37)]++Bs)) ⟨G',Sl.nil,aq _,rfl,[],h⟩ ?_
  rintro k F7 N2 hk ⟨G5,sr,l6,hsr,Bs,h⟩ next2;replace h:St G5 F7 [pt b7 (.cells (zR (fw i) ((y.left % g.nons.length:Nat):Int) sr Sl.nil 0) 55),own sr 63 2 (cat ((((y.right.take 3).map (bX g.nons.length)).take k).map Sy.arr)),pt b5 (.cells (g.arr c n t s p4 l f) 37),pt b4 (.cells zG 37)]:=h.pick id (λ_ _ _ _ e=>e) λi hi=>by rw [id,U9 hi]
  have l46:=aa l5 l6;unfold Ac;have done2:k=min 3 y.right.length->wc N1 sm b4 b5 (i:Int) (some (Addr.mk b7 0 none)) (LR F (ga x more)) F7:=λe=>by
   rw [UZ (by rw [U6,hmr];omega)] at h;obtain ⟨G6,l7,hd,h⟩:=h.swap.pinO;have hsy:RL G6 sr ((y.right.take 3).map (bX g.nons.length)):=⟨_,zS _,hd⟩;have l47:=aa l46 l7;have hg6:=hg4.le l47;unfold wc;refine ixc (hm.le (aa l14 l47)) (by decide) (by omega) (by omega) λa85 c85 y' hy' hrow85 hc85=> ?_;rw [N4,hy] at hy';cases hy';obtain ⟨ry',rfl,_⟩:=hc85;refine ⟨(y.cond:Int),dc (bJ h.le hrow85) (i:=2) rfl,c,ld (h.ptAt (i:=1) rfl) rfl,?_⟩;dsimp only;rw [ec];refine h.run (qn y.cond g.conds.length hyc (by omega) _) λ_ G7 F8 hr l8 h=> ?_;obtain ⟨⟨_,rfl,hw⟩,-⟩:=hr;obtain ⟨m,rfl,hmm⟩:=hw.out;refine ⟨_,rfl,ld (h.ptAt (i:=1) rfl) rfl,_,rfl,?_⟩;simp only [aB];refine h.putR0 (o:=3) (w':=(nL g i y).arr sr m Sl.nil) rfl (by simp [ak,Sl.v]) (by show 3+2<=13;decide) rfl λF9 h=> ?_;have hP:Mem.rep G7 (nL g i y) ((nL g i y).arr sr m Sl.nil):=⟨sr,m,Sl.nil,rfl,hsy.le l8,hmm,RL.nil _⟩;refine ⟨p4,ld (h.ptAt (i:=1) rfl) rfl,_,rfl,ac (h.ptAt (i:=0) rfl),?_⟩;have hg7:=hg6.le l8;refine St.grow TP h hg7.p hP (by omega) rfl (λG' F' st=>ac (st.ptAt (i:=0) rfl)) λs' G8 F10 l9 hs' h=> ?_;have hg8:=hg7.le l9;refine h.set1 (w':=(Gw g i y).arr c n t s s' l f) (by show 5<9;decide) rfl λF11 h=> ?_;unfold wb;rw [aI (n:=4) hi4' (by decide)];have hlt':i<min 4 more.length:=by omega
   have hfin:=next F11 hlt';rw [hnext] at hfin;exact hfin ⟨G8,s',aa l4 (aa l47 (aa l8 l9)),⟨hg8.c,hg8.n,hg8.t,hg8.s,hs',hg8.l,hg8.f⟩,_,h.rot⟩
  refine ⟨λhkl=>⟨λhk3=> ?_,λhk3=>done2 (by omega)⟩,λhkl=>done2 (by omega)⟩;have hkr:k<y.right.length:=by omega
  obtain ⟨b,hb⟩:∃b,y.right[k]? =some b:=⟨_,N5 hkr⟩;have hb256:b<256:=hyr b (UY hb);have hsym:((y.right.take 3).map (bX g.nons.length))[k]? =some (bX g.nons.length b):=by rw [U5,VN (by omega),hb];rfl
  have hst:((y.right.take 3).map (bX g.nons.length)).take (k+1)=((y.right.take 3).map (bX g.nons.length)).take k++[bX g.nons.length b]:=by rw [V7,hsym];rfl
  have hat:∀{G' F':PH} {As:List (Ψ)},G5.le G'->St G' F' As->∃a,ry.base=some a/\0<=(k:Int)/\(k:Int)<(ry.len:Int)/\F'.cell (Addr.add a (Int.toNat (k:Int)*1))=some (vB b):=λl h=>
   (((hry.le l6).le l).le h.le).at6 (by rw [U5,hb];rfl)
  obtain ⟨a57,e1,e2,e3,e4⟩:=hat (aq _) h;refine ⟨a57,e1,e2,e3,(b:Int),e4,s,ld (h.ptAt (i:=2) rfl) rfl,by omega,?_⟩;have eb:Int.tmod (IntKind.i64.wrap (b:Int)) (s.len:Int)=((b % g.nons.length:Nat):Int):=by rw [es,aS (by omega) (by omega),fV]
  have eb9:Int.tmod (IntKind.i64.wrap (b:Int)) (9:Int)=((b % 9:Nat):Int):=by rw [aS (by omega) (by omega)];exact fV b 9
  rw [eb];refine h.new λb10 F8 h=> ?_;refine h.put0 (w':= #[.bool false,vi ((b % g.nons.length:Nat):Int)]) rfl rfl (by simp [ak]) λF9 h=> ?_;obtain ⟨a67,f1,f2,f3,f4⟩:=hat (aq _) h;refine ⟨a67,f1,f2,f3,(b:Int),f4,?_⟩;have fin5:∀{F':PH} {sy:Sy},sy=bX g.nons.length b->St G5 F' [pt b10 (.cells sy.arr 63),pt b7 (.cells (zR (fw i) ((y.left % g.nons.length:Nat):Int) sr Sl.nil 0) 55),own sr 63 2 (cat ((((y.right.take 3).map (bX g.nons.length)).take k).map Sy.arr)),pt b5 (.cells (g.arr c n t s p4 l f) 37),pt b4 (.cells zG 37)]->
    we N1 N2 sm b4 b5 (i:Int) (some (Addr.mk b7 0 none)) ry (k:Int) b10 (LR F (ga x more)) F':=λ{F' sy} esy h=>by
   unfold we;refine ⟨_,rfl,sr,by rw [aB];exact ld (h.ptAt (i:=1) rfl) rfl,sy.arr,rfl,ac (h.ptAt (i:=0) rfl),rfl,?_⟩;refine h.push2 TS (c:=sy.arr) rfl (by simp [ak]) (by omega) λs' G6 F10 l7 h hl'=> ?_;rw [De,esy,<- hst] at h;simp only [aB];refine h.set1 (w':=zR (fw i) ((y.left % g.nons.length:Nat):Int) s' Sl.nil 0) (by show 2<13;decide) rfl λF11 h=> ?_;rw [aI (n:=3) (by omega) (by decide)];exact next2 _ (by omega) ⟨G6,s',aa l6 l7,by omega,_,h.rot⟩
  refine ⟨λhgt=> ?_,λhle=> ?_⟩
  ·obtain ⟨a72,g1,g2,g3,g4⟩:=hat (aq _) h;refine ⟨a72,g1,g2,g3,(b:Int),g4,?_⟩;dsimp only;rw [eb9];refine h.put0 (w':= #[.bool true,vi ((b % 9:Nat):Int)]) rfl rfl (by simp [ak]) λF10 h=> ?_;exact fin5 (sy:=⟨true,((b % 9:Nat):Int)⟩) (by unfold bX;rw [if_pos (by omega)]) h
  ·exact fin5 (sy:=⟨false,((b % g.nons.length:Nat):Int)⟩) (by unfold bX;rw [if_neg (by omega)]) h
 refine ⟨?_,?_⟩
 ·refine h.newG λb26 G5 F7 l5 q26 _ h=> ?_;refine ⟨_,ic (h.le _ _ q26),sz2,?_⟩;refine h.new λb7 F8 h=> ?_;refine h.put0 (w':=zR (fw i) ((y.left % g.nons.length:Nat):Int) Sl.nil Sl.nil 0) rfl rfl (by simp [ak,Sl.v,Sl.nil]) λF9 h=> ?_;exact fin l5 h
 ·refine h.new λb7 F8 h=> ?_;refine h.newG λb26 G5 F7 l5 q26 _ h=> ?_;refine ⟨_,ic (h.le _ _ q26),sz2,?_⟩;refine h.put0 (w':=zR (fw i) ((y.left % g.nons.length:Nat):Int) Sl.nil Sl.nil 0) rfl rfl (by simp [ak,Sl.v,Sl.nil]) λF9 h=> ?_;exact fin l5 h
end
section
variable {F:PH} {g:Gr} {k:Nat}
theorem Gj (S:Int->Tr) (n:Nat):(fQ S n).length=n:=by unfold fQ;rw [U6,Vw]
end
section
end
section
end
section
end
section
end
section
end
theorem ju (n:Nat) (b:Bool):ij (dia (leaf b)) n:=⟨pG trivial (by show 0<=4096;decide),λx hx=>(by cases hx)⟩
section
variable {g:Gr} {c:Int}
theorem B1:∀(l:List Tk) {n:Nat} (done:List ByteArray),fk n done l->fk 0 done (l.map λt=>{t with cond:=atD t.cond c})
 |[],_,_,_=>trivial
 |_::l,_,_,⟨⟨h1,h2,h3,h4,_,h6⟩,h⟩=>⟨⟨h1,h2,h3,h4,ju _ _,h6⟩,B1 l _ h⟩
theorem Gl {α:Type} {l:List α} {f:α->α} (P:α->α->Prop) (hf:∀x,P (f x) x) (i:Nat) (x:α) (h:l[i]? =some x):∃y,(l.map f)[i]? =some y/\P y x:=
 ⟨f x,by rw [U5,h];rfl,hf x⟩
theorem Gm {s:Sy} (h:kC g s):kC (atG g c) s:=
 ⟨h.1,h.2.1,λe=>by
  obtain ⟨u,u1,u2⟩:=h.2.2 e;obtain ⟨u',v1,v2⟩:=Gl (l:=g.toks) (f:=λt=>{t with cond:=atD t.cond c}) (λy x=>y.cls=x.cls) (λ_=>rfl) _ _ u1
  exact ⟨u',v1,v2.trans u2⟩⟩
theorem xQ:∀(l:List Pr) (done:List ByteArray),dM g done l=0->dM (atG g c) done (l.map λp=>{p with cond:=atD p.cond c})=0
 |[],_,_=>rfl
 |p::l,done,h=>by
  unfold dM at h;by_cases h1:ig g p
  ·rw [if_neg (not_not_intro h1)] at h;by_cases h2:DW g done p
   ·rw [if_neg (not_not_intro h2)] at h;rw [Vi];unfold dM;rw [if_neg (not_not_intro ⟨Gm h1.1,λs hs=>Gm (h1.2 s hs)⟩),if_neg (not_not_intro ⟨h2.1,h2.2.1,ju _ _,h2.2.2.2.1,h2.2.2.2.2.1,h2.2.2.2.2.2⟩)];exact xQ l _ h
   ·rw [if_pos h2] at h;cases h
  ·rw [if_pos h1] at h;cases h
theorem Gp:∀(l:List Lv) (done:Φ),eB g done l->eB (atG g c) done (l.map λx=>{x with cond:=atD x.cond c})
 |[],_,_=>trivial
 |_::l,_,⟨⟨h1,h2,_,h4,h5⟩,h⟩=>⟨⟨h1,h2,ju _ _,λp hp=>⟨(h4 p hp).1,by show p<((g.prods.map _).length:Nat);rw [U6];exact (h4 p hp).2⟩,h5⟩,Gp l _ h⟩
theorem M9 {x:Fi} (h:bZ g x):bZ (atG g c) {x with cond:=atD x.cond c}:=by
 have hT:∀(i:Nat) (t:Tk),g.toks[i]? =some t->∃t':Tk,(atG g c).toks[i]? =some t'/\t'.cls=t.cls/\t'.lit=t.lit:=Gl (l:=g.toks) (f:=λt=>{t with cond:=atD t.cond c}) (λy x=>y.cls=x.cls/\y.lit=x.lit) (λ_=>⟨rfl,rfl⟩)
 have hA:∀{kd:Tk->Bool} {l:Φ},(∀t t':Tk,t'.cls=t.cls->t'.lit=t.lit->kd t'=kd t)->fE g kd l->fE (atG g c) kd l:=λhk h=>⟨h.1,λn hn=>⟨(h.2.1 n hn).1,by
  obtain ⟨t,t1,t2⟩:=(h.2.1 n hn).2;obtain ⟨t',u1,u2,u3⟩:=hT _ _ t1
  exact ⟨t',u1,(hk _ _ u2 u3).trans t2⟩⟩,h.2.2⟩
 refine ⟨ju _ _,?_⟩;rcases h.2 with ⟨k,⟨a,b,d,p,q,e1,e2,e3⟩,r⟩|⟨k,⟨a,b,d⟩,r⟩|⟨k,⟨a,b,t,t1,t2,t3⟩,r⟩
 ·refine .inl ⟨k,⟨a,b,d,{p with cond:=atD p.cond c},{q with cond:=atD q.cond c},?_,?_,e3⟩,r⟩
  ·show (g.prods.map _)[x.par.toNat]? =_;rw [U5,e1];rfl
  ·show (g.prods.map _)[x.ch.toNat]? =_;rw [U5,e2];rfl
 ·exact .inr (.inl ⟨k,⟨a,b,hA (λt t' h _=>by simp only [h]) d⟩,r⟩)
 ·obtain ⟨t',u1,u2,u3⟩:=hT _ _ t1;exact .inr (.inr ⟨k,⟨hA (λt t' _ h=>by simp only [h]) a,b,t',u1,u2.trans t2,u3.trans t3⟩,r⟩)
theorem Ry (h:OkG g):OkG (atG g c):=by
 refine ⟨?_,⟨λs hs=>(by cases hs),⟨List.nodup_nil,λh=>(by cases h)⟩,ju _ _,show (dia (leaf true)).2≠0 by decide⟩,B1 _ _ h.toks,h.nons,xQ _ _ h.prods,Gp _ _ h.lvs,λx hx=> ?_⟩
 ·have hl:=h.large;unfold dP atG at*;rw [Bool.or_eq_false_iff] at hl ⊢;refine ⟨?_,?_⟩
  ·have h1:=of_decide_eq_false hl.1;refine decide_eq_false ?_;simp only [U6,List.length_nil];omega
  ·rw [List.any_map];exact hl.2
 ·obtain ⟨y,hy,rfl⟩:=U8.1 hx;exact M9 (h.fils y hy)
theorem Rz (h:Sz g):Sz (atG g c):=by
 refine ⟨λs hs=>(by cases hs),λt ht=> ?_,λl hl=> ?_,λf hf=> ?_⟩
 ·obtain ⟨y,hy,rfl⟩:=U8.1 ht;exact h.t y hy
 ·obtain ⟨y,hy,rfl⟩:=U8.1 hl;exact h.l y hy
 ·obtain ⟨y,hy,rfl⟩:=U8.1 hf;exact h.f y hy
end
section
variable {g:Gr} {k:Nat} {c:Int}
theorem atK (h:OkK g k):OkK (atG g c) 0:=⟨Ry h.ok,rfl,by decide⟩
theorem Gq {n:Nat} (hn:n<=6) {d:Dia} {t:Tr} (ht:Sx n t) (hd:d=dia t):tre (atD d c)=leaf ((tre d).ev (cfg c)):=by unfold atD;rw [dJ (t:=leaf _) trivial,hd,rm (ht.small hn),dJ ht.1]
theorem IU (h:OkK g k) (i:Int) (d:Cf):(ja (atG g c) i).ev d=(ja g i).ev (cfg c):=by
 unfold ja;cases ht:g.toks[i.toNat]? with
 |none=>
  have:(atG g c).toks[i.toNat]? =none:=by show (g.toks.map _)[i.toNat]? =none;rw [U5,ht];rfl
  rw [this];rfl
 |some t=>
  have:(atG g c).toks[i.toNat]? =some {t with cond:=atD t.cond c}:=by show (g.toks.map _)[i.toNat]? =_;rw [U5,ht];rfl
  rw [this];dsimp only;obtain ⟨a,b⟩:=h.tok (UY ht);rw [Gq h.le a b];rfl
theorem mN (i:Nat):(atG g c).prods[i]? =(g.prods[i]?).map λp=>{p with cond:=atD p.cond c}:=by show (g.prods.map _)[i]? =_;rw [U5]
theorem vY (h:OkK g k) (hf:(tre g.fam).ev (cfg c)=true) {i:Nat} {x:Pr} (hx:g.prods[i]? =some x) (d:Cf):(aK (atG g c) i).ev d=(aK g i).ev (cfg c):=by
 have hx':(atG g c).prods[i]? =some {x with cond:=atD x.cond c}:=by rw [mN,hx];rfl
 obtain ⟨a,b,_⟩:=h.prod (UY hx);rw [(atK h).prs_ev hx',h.prs_ev hx,hf];have e1:tre (atG g c).fam=leaf true:=dJ (t:=leaf true) trivial;have e2:tre (atD x.cond c)=leaf ((tre x.cond).ev (cfg c)):=Gq h.le a b;have e3:(λs:Sy=> !s.t || (ja (atG g c) s.i).ev d)=λs:Sy=> !s.t || (ja g s.i).ev (cfg c):=funext λs=>by rw [IU h]
 rw [e1];dsimp only;rw [e2,e3];rfl
theorem jv (h:OkK g k) (hf:(tre g.fam).ev (cfg c)=true) (d:Cf):Inc g.prods (atG g c).prods (aK g) (aK (atG g c)) (cfg c) d/\Inc (atG g c).prods g.prods (aK (atG g c)) (aK g) d (cfg c):=by
 refine ⟨λi x hx hp=>⟨i,{x with cond:=atD x.cond c},by rw [mN,hx];rfl,rfl,rfl,by rw [vY h hf hx];exact hp⟩,λi x hx hp=> ?_⟩;rw [mN] at hx;cases hy:g.prods[i]? with
 |none=>rw [hy] at hx;cases hx
 |some y=>rw [hy] at hx;cases hx;exact ⟨i,y,hy,rfl,rfl,by rw [<- vY h hf hy d];exact hp⟩
theorem zV (h:OkK g k) (hf:(tre g.fam).ev (cfg c)=true) (d:Cf) {st:Bool} {n:Int}:Der g.prods (aK g) st (cfg c) n↔Der (atG g c).prods (aK (atG g c)) st d n:=
 ⟨λx=>x.inc (jv h hf d).1,λx=>x.inc (jv h hf d).2⟩
theorem Na (h:OkK g k) (hf:(tre g.fam).ev (cfg c)=true) (d:Cf) {n t:Int}:Fst g.prods (aK g) (cfg c) n t↔Fst (atG g c).prods (aK (atG g c)) d n t:=
 ⟨λx=>x.inc (jv h hf d).1,λx=>x.inc (jv h hf d).2⟩
theorem Nc (h:OkK g k) (hf:(tre g.fam).ev (cfg c)=true) (d:Cf) {n m:Int}:Tg (Stp g.prods (aK g) (cfg c)) n m↔Tg (Stp (atG g c).prods (aK (atG g c)) d) n m:=
 ⟨λx=>x.mono λ_ _ y=>y.inc (jv h hf d).1,λx=>x.mono λ_ _ y=>y.inc (jv h hf d).2⟩
theorem Nf (h:OkK g k) (hf:(tre g.fam).ev (cfg c)=true) (d:Cf) {i:Nat}:Use g.prods (aK g) (tre g.fam) g.start (cfg c) i↔Use (atG g c).prods (aK (atG g c)) (tre (atG g c).fam) (atG g c).start d i:=by
 have e1:tre (atG g c).fam=leaf true:=dJ (t:=leaf true) trivial;constructor
 ·rintro ⟨x,h1,h2,h3,h4⟩;refine ⟨{x with cond:=atD x.cond c},by rw [mN,h1];rfl,by rw [vY h hf h1];exact h2,Rch.inc (jv h hf d).1 (λ_=>by rw [e1];rfl) h3,λy hy hyt=>(zV h hf d).1 (h4 y hy hyt)⟩
 ·rintro ⟨x,h1,h2,h3,h4⟩;rw [mN] at h1;cases hy:g.prods[i]? with
  |none=>rw [hy] at h1;cases h1
  |some y=>rw [hy] at h1;cases h1;exact ⟨y,hy,by rw [<- vY h hf hy d];exact h2,Rch.inc (jv h hf d).2 (λ_=>hf) h3,λy hy hyt=>(zV h hf d).2 (h4 y hy hyt)⟩
theorem IV {t:Tr} (ht:Sx 0 t) (d:Cf):((dia t).2≠0)↔t.ev d=true:=by
 have hc:∀c c':Cf,t.ev c=t.ev c':=λc c'=>lf ht.2 λi hi=>by omega
 constructor
 ·intro h;cases e:t.ev d with
  |true=>rfl
  |false=>exact absurd ((dU ht.1).2 (set_empty' ht λc=>by rw [hc c d,e];decide)) h
 ·intro h e;rw [(dU ht.1).1 e] at h;cases h
where
 set_empty' {t:Tr} (ht:Sx 0 t) (h:∀c,t.ev c≠true):t=leaf false:=eL ht.1 trivial λc=>by
  cases e:t.ev c with
  |true=>exact absurd e (h c)
  |false=>rfl
end
theorem Gs {g:Gr} {i m:Nat} (h:(mZ g)[i]? =some m):m<2 ^ g.conds.length/\(tre g.fam).ev (cfg (m:Nat))=true:=by have:=UY h;unfold mZ at this;obtain ⟨h1,h2⟩:=Wj.1 this;exact ⟨VA.1 h1,h2⟩
theorem rY {g:Gr} (hc:g.conds.length<=3):(mZ g).length<=8:=by unfold mZ;refine VK (List.length_filter_le _ _) ?_;rw [Vw];exact VK (Vq (by decide) hc) (by decide)
theorem Gt {g:Gr} (hk:OkG g) (hc:g.conds.length<=3):oc g 16=(mZ g,true):=by have:=rY hc;unfold oc;rw [if_neg (by rw [lu.2 hk];decide),UZ (by show _<=16;omega),decide_eq_true (by omega)]
theorem Df {F:PH} {v:Γ} {k:Nat} {t:Tr} {c:Int} (hk:k<=6) (ht:Sx k t) (hd:DV F v (dia t)) (c0:0<=c) (c1:c<18446744073709551616):ai prog 41 #[.agg v,.int .u64 c] F λr F'=>r=.bool (t.ev (cfg c))/\F.le F':=by rw [<- rm (ht.small hk) c];exact kP hd c0 c1
theorem uf {S:Int×Int->Tr} {nt n i:Nat} (h1:i<n):(jz S nt n)[i]? =some (sY S nt i):=by unfold jz;rw [U5,Vy h1];rfl
section
end
theorem Ng {g:Gr} (hk:OkK g g.conds.length) {m:Nat} (hlt:m<2 ^ g.conds.length) (hf:(tre g.fam).ev (cfg (m:Nat))=true):inW g (m:Int)=true:=by have h6:=hk.le;have h:=rm (hk.fam.1.small hk.le) (m:Int);rw [<- hk.fam.2,hf] at h;unfold inW;rw [h,Bool.and_true,show min g.conds.length 64=g.conds.length by omega];refine decide_eq_true ?_;rw [Int.fdiv_eq_ediv_of_nonneg _ (by exact_mod_cast Nat.zero_le (2 ^ g.conds.length))];exact Int.ediv_eq_zero_of_lt (by omega) (by exact_mod_cast hlt)
section
variable {F:PH} {k:Nat} {c:Int}
theorem eQ {n:Nat} {a b:Sl} {S U:Nat->Tr} (hk:k<=6) (c0:0<=c) (c1:c<18446744073709551616) (ha:RL F a ((List.range n).map λi=>dia (S i))) (hb:RL F b ((List.range n).map λi=>dia (U i))) (hn:n<=1000000) (hS:∀i,i<n->Sx k (S i)) (hU:∀i,i<n->Sx 0 (U i))
  (h:∀i,i<n->((S i).ev (cfg c)=true↔(U i).ev (cfg c)=true)):ai prog 108 #[a.v,b.v,.int .u64 c] F (RT6 F):=by
 have ea:=ha.len (by decide);have eb:=hb.len (by decide);rw [U6,Vw] at ea eb;refine RW ?_;unfold LD;refine ⟨λhn=>absurd (by omega) hn,λ_=> ?_⟩;refine bz (wi · a b c _) n (λi F'=>F.le F') (aq _) ?_;rintro i F1 N hi l1 next;unfold wi;refine ⟨λhlt=> ?_,λhge=>⟨rfl,l1⟩⟩;have hlt:i<n:=by omega
 refine ixc (ha.le l1) (by decide) (by omega) (by omega) λa1 y1 d1 hd1 hrow1 hy1=>⟨y1,Mem.len hy1,hrow1,?_⟩;refine ixc (hb.le l1) (by decide) (by omega) (by omega) λa2 y2 d2 hd2 hrow2 hy2=> ?_;rw [N4,U5,Vy hlt] at hd1 hd2;cases hd1;cases hd2;obtain ⟨s2,rfl,_⟩:=id (show DV F1 y2 (dia (U i)) from hy2);refine ⟨(dia (U i)).2,dc hrow2 (i:=1) rfl,?_⟩;refine (Df hk (hS i hlt) (show DV F1 y1 (dia (S i)) from hy1) c0 c1).mono ?_;rintro _ F2 ⟨rfl,l2⟩;refine ⟨_,rfl,dc (bJ l2 hrow2) (i:=1) rfl,λhn=> ?_,λ_=> ?_⟩
 ·have e:=(h i hlt).trans (IV (hU i hlt) (cfg c)).symm;have:(S i).ev (cfg c)=decide ((dia (U i)).2≠0):=by rw [U3,e,decide_eq_true_iff]
  rw [this,beq_self_eq_true] at hn;cases hn
 ·rw [aI hlt (by omega)];exact next _ hlt (aa l1 l2)
theorem vZ {v w:Γ} {g:Gr} (hT:Tab F) (hg:GV F v g) (hz:Sz g) (hk:OkK g k) (hrl:∀x∈g.prods,x.right.length<=1000000) (hh:GV F w (atG g c)) (hf:(tre g.fam).ev (cfg c)=true) (c0:0<=c) (c1:c<18446744073709551616):
  ai prog 43 #[.agg v,.agg w,.int .u64 c] F (RT6 F):=by
 obtain ⟨o1,o2,o3,o4⟩:=ib hk.ok;have hk6:=hk.le;have hkA:OkK (atG g c) 0:=atK hk;have hzA:Sz (atG g c):=Rz hz;have ep:(atG g c).prods.length=g.prods.length:=U6 ..;have et:(atG g c).toks.length=g.toks.length:=U6 ..;have en:(atG g c).nons=g.nons:=rfl;have hrlA:∀x∈(atG g c).prods,x.right.length<=1000000:=λx hx=>by obtain ⟨y,hy,rfl⟩:=U8.1 hx;exact hrl y hy
 have aD:=λ{st n}=>zV hk hf (cfg c) (st:=st) (n:=n);have aF:=λ{n t}=>Na hk hf (cfg c) (n:=n) (t:=t);have aC:=λ{n m}=>Nc hk hf (cfg c) (n:=n) (m:=m);have aU:=λ{i}=>Nf hk hf (cfg c) (i:=i);generalize atG g c=g2 at*;refine Ul ?_;unfold RT;refine (St.start F).newG λb3 G1 F1 l1 q3 _ h=>h.newG λb4 G2 F2 l2 q4 _ h=> ?_;have l02:=aa l1 l2;replace hg:=hg.le l02;replace hh:=hh.le l02;replace hT:=hT.le l02;have q3:=l2 _ _ q3;have r3:∀{G' F':PH} {As:List (Ψ)},G2.le G'->St G' F' As->F'.row (Addr.mk b3 0 none) v:=λl h=>ac (h.le _ _ (l _ _ q3));have r4:∀{G' F':PH} {As:List (Ψ)},G2.le G'->St G' F' As->F'.row (Addr.mk b4 0 none) w:=λl h=>ac (h.le _ _ (l _ _ q4));refine ⟨v,hg.size,r3 (aq _) h,?_⟩;refine h.run (iJ hT hg hz hk hrl (by omega) (by omega)) λ_ G3 F3 hr l3 h=> ?_;obtain ⟨s1,N1,rfl,hN1,hs1⟩:=hr;refine ⟨s1,_,rfl,w,hh.size,r4 l3 h,?_⟩;refine h.run (iJ (hT.le l3) (hh.le l3) hzA hkA hrlA (by omega) (by rw [en];omega)) λ_ G4 F4 hr l4 h=> ?_;obtain ⟨s2,N2,rfl,hN2,hs2⟩:=hr;have m4:=aa l3 l4;refine ⟨s2,_,rfl,v,hg.size,r3 m4 h,?_⟩;refine h.run (gb (hT.le m4) (hg.le m4) hz hk hrl (by omega) (by omega)) λ_ G5 F5 hr l5 h=> ?_;obtain ⟨s3,D1,rfl,hD1,hs3⟩:=hr;have m5:=aa m4 l5;refine ⟨s3,_,rfl,w,hh.size,r4 m5 h,?_⟩;refine h.run (gb (hT.le m5) (hh.le m5) hzA hkA hrlA (by omega) (by rw [en];omega)) λ_ G6 F6 hr l6 h=> ?_;obtain ⟨s4,D2,rfl,hD2,hs4⟩:=hr;have m6:=aa m5 l6;refine ⟨s4,_,rfl,v,hg.size,r3 m6 h,?_⟩;refine h.run (iP (hT.le m6) (hg.le m6) hz hk) λ_ G7 F7 hr l7 h=> ?_;obtain ⟨s5,_,rfl,⟨C1,hC1,rfl⟩,hs5⟩:=hr;have m7:=aa m6 l7;refine ⟨s5,_,rfl,w,hh.size,r4 m7 h,?_⟩;refine h.run (iP (hT.le m7) (hh.le m7) hzA hkA) λ_ G8 F8 hr l8 h=> ?_;obtain ⟨s6,_,rfl,⟨C2,hC2,rfl⟩,hs6⟩:=hr;have m8:=aa m7 l8;refine ⟨s6,_,rfl,v,hg.size,r3 m8 h,?_⟩;refine h.run (kT (hT.le m8) (hg.le m8) hz hk hrl (by omega)) λ_ G9 F9 hr l9 h=> ?_;obtain ⟨s7,_,rfl,⟨U1,hU1,rfl⟩,hs7⟩:=hr;have m9:=aa m8 l9;refine ⟨s7,_,rfl,w,hh.size,r4 m9 h,?_⟩;refine h.run (kT (hT.le m9) (hh.le m9) hzA hkA hrlA (by omega)) λ_ G10 F10 hr l10 h=> ?_;obtain ⟨s8,_,rfl,⟨U2,hU2,rfl⟩,hs8⟩:=hr;have m10:=aa m9 l10;refine ⟨s8,_,rfl,v,hg.size,r3 m10 h,?_⟩;refine h.run (nV (hT.le m10) (hg.le m10) hz hk hrl (by omega) (by omega) (by omega)) λ_ G11 F11 hr l11 h=> ?_;obtain ⟨s9,_,rfl,⟨S1,hS1,rfl⟩,hs9⟩:=hr;have m11:=aa m10 l11;refine ⟨s9,_,rfl,w,hh.size,r4 m11 h,?_⟩;refine h.run (nV (hT.le m11) (hh.le m11) hzA hkA hrlA (by omega) (by omega) (by rw [en];omega)) λ_ G12 F12 hr l12 h=> ?_;obtain ⟨s10,_,rfl,⟨S2,hS2,rfl⟩,hs10⟩:=hr;have m12:=aa m11 l12;rw [en] at hs2 hs4 hs6 hs10;rw [ep] at hs8;rw [et] at hs10;have f912:=aa l10 (aa l11 l12);have f712:=aa l8 (aa l9 f912);have f512:=aa l6 (aa l7 f712);have e1:=hs1.len (by decide);have e9:=hs9.len (by decide);have e10:=hs10.len (by decide);rw [Gj] at e1;rw [uy] at e9 e10;obtain ⟨c,n,t,s,p,l,f,rfl,hs⟩:=id hg;have es:=hs.s.len (by decide);refine ⟨s10,_,rfl,s,ld (h.le _ _ (m12 _ _ q3)) rfl,λhne=>absurd (by omega) hne,λ_=>⟨λhne=>absurd (by omega) hne,λ_=> ?_⟩⟩;refine bz (Ah · _ b3 s1 s2 s3 s4 s5 s6 s7 s8 s9 s10 _) g.nons.length (λi F'=>∃G':PH,G12.le G'/\St G' F' []) ⟨G12,aq _,h⟩ ?_;rintro i F13 N hi ⟨G13,l13,h⟩ next;have m13:=aa m12 l13;unfold Ah;refine ⟨λhlt=> ?_,λhge=> ?_⟩
 ·have hlt:i<g.nons.length:=by omega
  refine ixc (hs9.le (aa l12 l13)) (by decide) (by omega) (by omega) λa99 y99 row hrw hrow99 hc99=> ?_;rw [N4,uf hlt] at hrw;cases hrw;obtain ⟨t1,rfl,ht1⟩:=hc99;refine ⟨t1,be (bJ h.le hrow99) rfl,?_⟩;refine ixc (hs10.le l13) (by decide) (by omega) (by omega) λa103 y103 row hrw hrow103 hc103=> ?_;rw [N4,uf hlt] at hrw;cases hrw;obtain ⟨t2,rfl,ht2⟩:=hc103;refine ⟨t2,be (bJ h.le hrow103) rfl,?_⟩;refine h.runv (eQ hk6 c0 c1 ht1 ht2 (by omega) (λj _=>hS1.sx _) (λj _=>hS2.sx _) λj _=>by rw [hS1.iff,hS2.iff];exact aF) λG14 F14 l14 h=>⟨_,rfl,λhn=>(by cases hn),λ_=> ?_⟩;rw [aI hlt (by omega)];exact next _ hlt ⟨G14,aa l13 l14,h⟩
 ·unfold GG;refine h.runv (eQ hk6 c0 c1 ((hs1.le (aa l4 (aa l5 f512))).le l13) ((hs2.le (aa l5 f512)).le l13) (by omega) (λj _=>hN1.sx _) (λj _=>hN2.sx _) λj _=>by rw [hN1.iff,hN2.iff];exact aD) λG14 F14 l14 h=>⟨_,rfl,λ_=> ?_,λhn=>(by cases hn)⟩;have x14:=aa l13 l14;refine h.runv (eQ hk6 c0 c1 ((hs3.le f512).le x14) ((hs4.le (aa l7 f712)).le x14) (by omega) (λj _=>hD1.sx _) (λj _=>hD2.sx _) λj _=>by rw [hD1.iff,hD2.iff];exact aD) λG15 F15 l15 h=>⟨_,rfl,λ_=> ?_,λhn=>(by cases hn)⟩;have x15:=aa x14 l15;refine h.runv (eQ hk6 c0 c1 ((hs5.le f712).le x15) ((hs6.le (aa l9 f912)).le x15) (by omega) (λj _=>hC1.sx _) (λj _=>hC2.sx _) λj hj=>by rw [hC1.iff j _ hj,hC2.iff j _ (by rw [en];exact hj)];exact aC) λG16 F16 l16 h=>⟨_,rfl,λ_=> ?_,λhn=>(by cases hn)⟩;have x16:=aa x15 l16;refine h.runv (eQ hk6 c0 c1 ((hs7.le f912).le x16) ((hs8.le (aa l11 l12)).le x16) (by omega) (λj _=>hU1.sx _) (λj _=>hU2.sx _) λj hj=>by rw [hU1.iff j _ hj,hU2.iff j _ (by rw [ep];exact hj)];exact aU) λG17 F17 l17 h=>⟨_,rfl,λ_=> ?_,λhn=>(by cases hn)⟩;have x17:=aa m12 (aa x16 l17);refine ⟨s,ld (h.le _ _ (x17 _ _ q3)) rfl,?_,aa l02 (aa x17 h.le)⟩;rw [decide_eq_true (by omega)]
theorem v8 {v:Γ} {x:Rw} {sm:Sl} {more:List Ln} (hT:Tab F) (hx:yo F v x) (hm:RL F sm more):ai prog 11 #[.agg v,sm.v] F (RT6 F):=by
 refine Uj ?_;unfold RQ;have hvs:v.size=5:=by obtain ⟨⟨a,b,c,rfl,_⟩,_⟩:=hx;rfl
 refine (St.start F).newG λb2 G1 F1 l1 q2 _ h=> ?_;refine h.runv (IX (hT.le l1)) λG2 F2 l2 h=>⟨_,rfl,v,hvs,ac (h.le _ _ (l2 _ _ q2)),?_⟩;have l02:=aa l1 l2;refine h.run (P:=λr G'=>∃w,r=.agg w/\GV G' w (ga x more)) (zU (hx.le l02) (hm.le l02)) λ_ G3 F3 hr l3 h=> ?_;obtain ⟨w,rfl,hg⟩:=hr;have l03:=aa l02 l3;refine ⟨w,rfl,?_⟩;have lg:=Gx x more;have hok:=lg.ok (by omega);have hz:=lg.mg.sz lg.bd;have hrl:=lg.rl;have hsm:=(lg.ti (by omega)).sm (by decide);have hc3:=lg.bd.c;generalize ga x more=g at*;clear lg hm hx;refine h.var hg.st (λb6 G4 F4 l4 q6 h=> ?_) rfl hg.size;replace hg:=hg.le l4;have l04:=aa l03 l4;have r6:∀{G' F':PH} {As:List (Ψ)},G4.le G'->St G' F' As->F'.row (Addr.mk b6 0 none) w:=λl h=>ac (h.le _ _ (l _ _ q6));refine ⟨w,hg.size,r6 (aq _) h,?_⟩;refine h.run (uO (hT.le l04) hg hz (by omega) 16) λ_ G5 F5 hr l5 h=> ?_;obtain ⟨sc,rfl,hsc⟩:=hr;rw [Gt hok.ok hc3] at hsc ⊢;replace hsc:RdS G5 sc 1 ((mZ g).map vC):=hsc;have hcs:=rY hc3;have esc:=hsc.len;rw [U6,Vs] at esc;have l05:=aa l04 l5;refine ⟨sc,true,rfl,λhn=>(by cases hn),λ_=> ?_⟩;refine bz (Af · true b6 sc _) (mZ g).length (λi F'=>∃G':PH,G5.le G'/\St G' F' []) ⟨G5,aq _,h⟩ ?_;rintro i F6 N hi ⟨G6,l6,h⟩ next;have l46:=aa l5 l6;have l06:=aa l04 l46;unfold Af;refine ⟨λhlt=> ?_,λhge=> ?_⟩
 ·have hlt:i<(mZ g).length:=by omega
  obtain ⟨cc,hcc⟩:∃cc,(mZ g)[i]? =some cc:=⟨_,N5 hlt⟩;obtain ⟨hclt,hf⟩:=Gs hcc;have c1:cc<18446744073709551616:=Wr hclt (VK (Vq (by decide) hc3) (by decide));have c0':(0:Int)<=(cc:Int):=by omega
  have c1':(cc:Int)<18446744073709551616:=by omega
  have hat:∀{G' F':PH} {As:List (Ψ)},G6.le G'->St G' F' As->∃a,sc.base=some a/\0<=(i:Int)/\(i:Int)<(sc.len:Int)/\F'.cell (Addr.add a (Int.toNat (i:Int)*1))=some (vC cc):=λl h=>
   (((hsc.le l6).le l).le h.le).at6 (by rw [U5,hcc];rfl)
  have eE:sK g (cc:Int)=0:=by unfold sK;rw [lu.2 hok.ok,if_neg (by decide),Ng hok hclt hf,if_neg (by decide)]
  have eR:uQ g (cc:Int)=atG g (cc:Int):=by unfold uQ;rw [eE,if_neg (by decide)]
  have run:∀{G':PH},G6.le G'->ai prog 42 #[.agg w,.int .u64 (cc:Int)] G' λr G''=>(∃w',r=.tuple #[.agg w',vi 0]/\GV G'' w' (atG g (cc:Int)))/\G'.le G'':=λ{G'} l=>by have:=DU (hT.le (aa l06 l)) (hg.le (aa l46 l)) hz hsm c0' c1';rw [eE,eR] at this;exact this
  obtain ⟨a33,e1,e2,e3,e4⟩:=hat (aq _) h;refine ⟨w,hg.size,r6 l46 h,a33,e1,e2,e3,(cc:Int),e4,?_⟩;have fin:∀{G' F':PH} {w':Γ} {b10:Nat},G6.le G'->GV G' w' (atG g (cc:Int))->St G' F' [pt b10 (.cells zG 37)]->
    au F' (Addr.mk b10 0 none) 9 w' λF2=>wh N true b6 sc (i:Int) (some (Addr.mk b10 0 none)) 0 (RT6 F) F2:=λ{G' F' w' b10} l hw h=>by
   refine h.put0 hw.size rfl hw.st λF7 h=> ?_;unfold wh;obtain ⟨a45,d1,d2,d3,d4⟩:=hat l h;refine ⟨λhne=>absurd rfl hne,λ_=>⟨w,hg.size,r6 (aa l46 l) h,_,rfl,w',hw.size,ac (h.ptAt (i:=0) rfl),a45,d1,d2,d3,(cc:Int),d4,?_⟩⟩;refine h.runv (vZ (hT.le (aa l06 l)) (hg.le (aa l46 l)) hz hok hrl hw hf c0' c1') λG8 F8 l8 h=>⟨_,rfl,λhn=>(by cases hn),λ_=> ?_⟩;rw [aI hlt (by omega)];exact next _ hlt ⟨G8,aa l6 (aa l l8),h.tail⟩
  refine ⟨?_,?_⟩
  ·refine h.run (run (aq _)) λ_ G7 F7 hr l7 h=> ?_;obtain ⟨w',rfl,hw⟩:=hr;exact ⟨w',0,rfl,h.new λb10 F8 h=>fin l7 hw h⟩
  ·refine h.new λb10 F7 h=> ?_;refine h.run (run (aq _)) λ_ G7 F8 hr l7 h=> ?_;obtain ⟨w',rfl,hw⟩:=hr;exact ⟨w',0,rfl,fin l7 hw h⟩
 ·unfold GF;exact ⟨rfl,aa l06 h.le⟩
end
end Go.Proofs.YtcemhghkipgdiaaGreatDoor
