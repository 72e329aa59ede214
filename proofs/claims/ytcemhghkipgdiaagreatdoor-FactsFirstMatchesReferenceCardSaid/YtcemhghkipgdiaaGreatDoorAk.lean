/-
  Package facts: analyze, whole.
-/
import Derived.Test.YtcemhghkipgdiaaGreatDoorIp
import Derived.Tactics
import Derived.Tactics2
import Derived.Recover
set_option maxRecDepth 10000
open Option renaming some->Y3,none->Y5
open Go.Obj renaming cells->Y4
open Bool renaming false->Y6,true->Y8
open Go.Value renaming agg->Y9,bool->Za,pointer->Ze,tuple->Zh,slice->Zm
open Go.Addr renaming add->Zb,mk->Zc
open Int renaming toNat->Zd,tmod->Zk
noncomputable section
namespace Go.Proofs.YtcemhghkipgdiaaGreatDoor
open Go.IntKind (i64 u8 u64)
open Sl renaming v->Y7,nil->Zi,mk->Zj
open Go Go.Proofs.Tryz Tr
section
variable {F G F1:PH} {b1 b2 b4:Nat} {x:Rw} {g:Gr} {w:Γ} {sf sl sr:Sl}
structure WK (F G:PH) (b1:Nat) (x:Rw) (sf sl sr:Sl):Prop where
 lF:F.le G
 q1:G b1=Y3 (Y4 #[vB x.YZ,vB x.n,sf.v,sl.v,sr.v] 26)
 rf:RdS G sf 1 (x.fam.map vB)
 rl:RL G sl x.lines
 rr:RL G sr x.rules
theorem WK.le {G':PH} (h:WK F G b1 x sf sl sr) (hl:G.le G'):WK F G' b1 x sf sl sr:=⟨aa h.lF hl,hl _ _ h.q1,h.rf.le hl,h.rl.le hl,h.rr.le hl⟩
theorem I0 (K:WK F G b1 x sf sl sr) (hg:GV G w g) (st:St G F1 [pt b4 (Y4 w 37),pt b2 (Y4 zG 37)]):qX b2 b4 (LR F g) F1:=by unfold qX;refine ⟨_,hg.size,st.whole0,?_⟩;refine st.put1 (w':=w) hg.size rfl hg.st λF3 h=> ?_;exact ⟨_,hg.size,h.whole1,⟨_,rfl,hg.le h.le⟩,aa K.lF h.le⟩
theorem xm (l:List Ln) (y:Ln):dP x (l++[y]) g=lineG (dP x l g) y (bN x):=by simp [dP]
theorem xn (l:List Ru) (y:Ru):eg (l++[y]) g=ruleG (eg l g) y:=by simp [eg]
theorem Ja {a:Nat} (K:WK F G b1 x sf sl sr) (hg:GV G w g) (hb:Bd g a 4) (ha:a<=100) (st:St G F1 [pt b4 (Y4 w 37),pt b2 (Y4 zG 37)]):
  qY b1 b2 b4 (LR F (eg (x.rules.take 6) g)) F1:=by
 have er:=K.rr.len;unfold qY;refine bh (zK · b1 b2 b4 _) (min 6 x.rules.length) (λk F'=>∃G' w,WK F G' b1 x sf sl sr/\GV G' w (eg (x.rules.take k) g)/\St G' F' [pt b4 (Y4 w 37),pt b2 (Y4 zG 37)]) ⟨G,w,K,hg,st⟩ ?_;rintro k F' N hk ⟨G',w,K,hg,st⟩ next;unfold zK;have done:k=min 6 x.rules.length->qX b2 b4 (LR F (eg (x.rules.take 6) g)) F':=λe=>by
  have e2:x.rules.take k=x.rules.take 6:=by
   rw [e];by_cases h6:6<=x.rules.length
   ·rw [Nat.min_eq_left h6]
   ·rw [Nat.min_eq_right (by omega),Xg,Xf (by omega)]
  rw [<- e2];exact I0 K hg st
 refine ⟨_,ld (st.le _ _ K.q1) rfl,λh1=>⟨λh2=> ?_,λh2=>done (by omega)⟩,λh1=>done (by omega)⟩;have hkl:k<x.rules.length:=by omega
 have hx:=N5 hkl;generalize x.rules[k]=y at hx;obtain ⟨ad,cc,had,hrow,hc⟩:=K.rr.get (by decide) hx;have hb2:=qP (x.rules.take k) hb;rw [Xe] at hb2;refine ⟨_,hg.size,st.whole0,_,ld (st.le _ _ K.q1) rfl,_,had,by omega,by omega,cc,Mem.len hc,by rw [N4];exact aU st.le hrow,?_⟩;refine st.run (zx hg hc (hb2.rh (by omega) (by omega) hc) (by have:=hb2.c;omega)) λ_ G2 F2 hr l2 st=> ?_;obtain ⟨w2,rfl,hw2⟩:=hr;have K:=K.le l2;refine ⟨_,rfl,ld (st.le _ _ K.q1) rfl,?_⟩;refine st.put0 (w':=w2) hw2.size hg.size hw2.st λF3 st=> ?_;rw [aA (n:=min 6 x.rules.length) (by omega) (by omega)];refine next _ (by omega) ⟨G2,w2,K,?_,st⟩;rw [aO hx,xn];exact hw2
theorem Bp (K:WK F G b1 x sf sl sr) (hg:GV G w g) (hb:Bd g 8 4) (st:St G F1 [pt b4 (Y4 w 37),pt b2 (Y4 zG 37)]):
  vE b1 b2 (x.YZ:Int) b4 ((cR x:Nat):Int) (LR F (eg (x.rules.take 6) (dP x (x.lines.take (cR x)) g))) F1:=by
 have el:=K.rl.len;have hm:cR x<=10:=by unfold cR;split<;>decide
 unfold vE;refine bh (zM · b1 b2 (x.YZ:Int) b4 ((cR x:Nat):Int) _) (min (cR x) x.lines.length) (λk F'=>∃G' w,WK F G' b1 x sf sl sr/\GV G' w (dP x (x.lines.take k) g)/\St G' F' [pt b4 (Y4 w 37),pt b2 (Y4 zG 37)]) ⟨G,w,K,hg,st⟩ ?_;rintro k F' N hk ⟨G',w,K,hg,st⟩ next;unfold zM;have hb2:=qO (x:=x) (x.lines.take k) hb;rw [Xe] at hb2;have done:k=min (cR x) x.lines.length->qY b1 b2 b4 (LR F (eg (x.rules.take 6) (dP x (x.lines.take (cR x)) g))) F':=λe=>by
  have e2:x.lines.take k=x.lines.take (cR x):=by
   rw [e];by_cases h6:cR x<=x.lines.length
   ·rw [Nat.min_eq_left h6]
   ·rw [Nat.min_eq_right (by omega),Xg,Xf (by omega)]
  rw [<- e2];exact Ja K hg hb2 (by omega) st
 refine ⟨_,ld (st.le _ _ K.q1) rfl,λh1=>⟨λh2=> ?_,λh2=>done (by omega)⟩,λh1=>done (by omega)⟩;have hkl:k<x.lines.length:=by omega
 have hx:=N5 hkl;generalize x.lines[k]=y at hx;obtain ⟨ad,cc,had,hrow,hc⟩:=K.rl.get (by decide) hx;refine ⟨_,hg.size,st.whole0,_,ld (st.le _ _ K.q1) rfl,_,had,by omega,by omega,cc,Mem.len hc,by rw [N4];exact aU st.le hrow,?_⟩;have ek:decide (Zk (x.YZ:Int) (8:Int)<6)=bN x:=by unfold bN;rw [show Zk (x.YZ:Int) (8:Int)=((x.YZ % 8:Nat):Int) from gb x.YZ 8];exact decide_eq_decide.2 (by omega)
 rw [ek];refine st.run (DT (cq:=bN x) hg hc (by have:=hb2.c;omega) (by have:=hb2.p;omega) hb2.n0 (by have:=hb2.n;omega)) λ_ G2 F2 hr l2 st=> ?_;obtain ⟨w2,rfl,hw2⟩:=hr;have K:=K.le l2;refine ⟨_,rfl,ld (st.le _ _ K.q1) rfl,?_⟩;refine st.put0 (w':=w2) hw2.size hg.size hw2.st λF3 st=> ?_;rw [aA (n:=min (cR x) x.lines.length) (by omega) (by omega)];refine next _ (by omega) ⟨G2,w2,K,?_,st⟩;rw [aO hx,xm];exact hw2
theorem Bq (K:WK F G b1 x sf sl sr) (hg:GV G w g) (hb:Bd g 8 4) (st:St G F1 [pt b4 (Y4 w 37),pt b2 (Y4 zG 37)]):
  vF b1 b2 (x.YZ:Int) b4 ((cR x:Nat):Int) (LR F (eg (x.rules.take 6) (dP x (x.lines.take (cR x)) (famG x g)))) F1:=by
 have hg0:=hg;obtain ⟨c,n,t,s,p,l,f,rfl,hs⟩:=hg;have ec:=hs.c.len;have ef:=K.rf.len;rw [Xd,Xz] at ef;have hn:g.YY.length<=6:=by have:=hb.c;omega
 unfold vF;refine ⟨_,ld (st.le _ _ K.q1) rfl,_,st.ld0 rfl,?_⟩;dsimp only;rw [ec];have hr1:RdS G sf 1 ((x.fam.map λk:Nat=>(k:Int)).map (Value.int .u8)):=by rw [List.map_map];exact K.rf
 refine st.run (P:=λr G=>lj (dia (xI x g.YY.length)) r G) ((ox hn hr1).mono λr F' ⟨u,t,h1,⟨h2,h3⟩,h4,h5⟩=>⟨⟨u,h1,by subst h3;exact h4⟩,h5⟩) λ_ G2 F2 hr l2 st=> ?_;obtain ⟨_,rfl,hw⟩:=hr;obtain ⟨m,rfl,hm⟩:=hw.out;have K:=K.le l2;refine ⟨_,rfl,?_⟩;refine st.var (w:= #[m.v,vi (dia (xI x g.YY.length)).2]) (by simp [ak,Y7]) (λb6 G3 F3 l3 q6 st=> ?_) rfl rfl;have K:=K.le l3;have l23:=aa l2 l3;have no:famG x g=g->qZ b1 b2 (x.YZ:Int) b4 ((cR x:Nat):Int) b6 Y6 (LR F (eg (x.rules.take 6) (dP x (x.lines.take (cR x)) (famG x g)))) F3:=λe=>by rw [e];unfold qZ;exact ⟨λh=>(by cases h),λ_=>Bp K (hg0.le l23) hb st⟩
 refine ⟨_,ld (st.le _ _ K.q1) rfl,λh1=>⟨_,ld (st.le _ _ q6) rfl,?_⟩,λh1=>no ?_⟩
 ·by_cases h2:(dia (xI x g.YY.length)).2≠0
  ·dsimp only;rw [decide_eq_true h2];have e:famG x g={g with fam:=dia (xI x g.YY.length)}:=by unfold famG;rw [if_pos ⟨λe=>by rw [e] at ef;simp at ef;omega,h2⟩]
   have hb2:=FE (x:=x) hb;rw [e] at hb2 ⊢;unfold qZ;refine ⟨λ_=>⟨_,rfl,ac (st.le _ _ q6),?_⟩,λh=>(by cases h)⟩;refine st.putR0 (o:=1) (w':=Gr.arr {g with fam:=dia (xI x g.YY.length)} c m t s p l f) rfl (by simp [ak,Y7]) (by show 1+2<=9;decide) rfl λF4 st=> ?_;exact Bp K ⟨c,m,t,s,p,l,f,rfl,hs.c.le l23,hm.le l3,hs.t.le l23,hs.s.le l23,hs.p.le l23,hs.l.le l23,hs.f.le l23⟩ hb2 st
  ·dsimp only;rw [decide_eq_false h2];exact no (by unfold famG;rw [if_neg (λh=>h2 h.2)])
 ·unfold famG;rw [Υ];rintro ⟨h,_⟩;exact h (Xp (by omega))
theorem xo {v:Γ} (hx:zy F v x):ν 32 #[Y9 v] F (LR F (dt x)):=by
 obtain ⟨⟨sf,sl,sr,rfl,h1,h2,h3⟩,hbase,hn⟩:=hx;refine VI ?_;unfold QN;refine (St.start F).newG λb1 G1 F1 l1 q1 _ st=> ?_;have K:WK F G1 b1 x sf sl sr:=⟨l1,q1,h1.le l1,h2.le l1,h3.le l1⟩;clear q1;refine st.new λb2 F2 st=> ?_;have e8:Zk (x.YZ:Int) (8:Int)=((x.YZ % 8:Nat):Int):=gb x.YZ 8;refine ⟨_,ld (st.le _ _ K.q1) rfl,_,ld (st.le _ _ K.q1) rfl,?_⟩;rw [e8];refine st.run (zv (x.YZ % 8) _) λ_ G2 F3 hr l2 st=> ?_;obtain ⟨w,rfl,hw⟩:=hr;have K:=K.le l2;refine ⟨_,rfl,?_⟩;refine st.new λb4 F4 st=> ?_;refine st.put0 (w':=w) hw.size rfl hw.st λF5 st=> ?_;have hbs:=qN x;unfold dt;refine ⟨λhk=> ?_,λhk=> ?_⟩
 ·have hkn:bN x=Y6:=by unfold bN;exact ι (by omega)
  have e:dC x={cM (fJ x) with YY:=jt x,YV:=[bE ⟨#[102,105,114,115,116]⟩ 0 [⟨Y8,0⟩]]}:=by unfold dC;rw [hkn,Υ (by decide)]
  rw [e] at hbs ⊢;have hm:cR x=10:=by unfold cR;rw [hkn,Υ (by decide)]
  refine st.newG λb19 G3 F6 l3 q19 _ st=> ?_;have K:=K.le l3;have ei:i64.wrap ((1:Int)+(Zk (i64.wrap (u8.wrap (Int.tdiv (x.n:Int) (4:Int)))) (3:Int)))=((1+x.n / 4 % 3:Nat):Int):=by rw [Yg (by omega),show (x.n:Int) / 4=((x.n / 4:Nat):Int) by omega,xF (by omega),show Zk (i64.wrap ((x.n / 4:Nat):Int)) (3:Int)=((x.n / 4 % 3:Nat):Int) from wN (b:=3) (by omega),aP (by omega)];omega
  have ej:i64.wrap (Zk (x.n:Int) (4:Int))=((x.n % 4:Nat):Int):=by rw [show Zk (x.n:Int) (4:Int)=((x.n % 4:Nat):Int) from gb x.n 4,aP (by omega)]
  refine ⟨_,ld (st.le _ _ K.q1) rfl,?_⟩;dsimp only;rw [ei,N4];refine ⟨by omega,by omega,by show _<=3;omega,?_⟩;have hr19:RdS G3 (Zj (Y3 (Zc b19 0 Y5)) 3 3) 1 (([⟨#[83]⟩,⟨#[80]⟩,⟨#[81]⟩]:List ο).map Value.string):=RdS.new q19 rfl rfl (W8 _);have hs19:RL G3 (Sl.cut (Zj (Y3 (Zc b19 0 Y5)) 3 3) 1 0 (1+x.n / 4 % 3) 3) (fJ x):=by refine RL.strs.2 ?_;have:=hr19.cut (l:=0) (r:=1+x.n / 4 % 3) (m:=3) (by omega) (by show _<=3;omega) (by omega);rw [Yf,XK,Xz,Yn,<- List.map_take] at this;exact this
  refine st.run (nc hs19) λ_ G4 F7 hr l4 st=> ?_;obtain ⟨c,n,t,rfl,k1,k2,k3,k4⟩:=hr;have K:=K.le l4;refine ⟨_,rfl,?_⟩;refine st.put0 (w':=(cM (fJ x)).arr c n t (Sl.cut (Zj (Y3 (Zc b19 0 Y5)) 3 3) 1 0 (1+x.n / 4 % 3) 3) Zi Zi Zi) rfl hw.size (by simp [ak,Y7]) λF8 st=> ?_;refine st.newG λb28 G5 F9 l5 q28 _ st=> ?_;have K:=K.le l5;refine ⟨_,ld (st.le _ _ K.q1) rfl,?_⟩;dsimp only;rw [ej,N4];refine ⟨by omega,by omega,by show _<=3;omega,?_⟩;have hr28:RdS G5 (Zj (Y3 (Zc b28 0 Y5)) 3 3) 1 (([⟨#[65]⟩,⟨#[66]⟩,⟨#[67]⟩]:List ο).map Value.string):=RdS.new q28 rfl rfl (W8 _);have hs28:RL G5 (Sl.cut (Zj (Y3 (Zc b28 0 Y5)) 3 3) 1 0 (x.n % 4) 3) (jt x):=by refine RL.strs.2 ?_;have:=hr28.cut (l:=0) (r:=x.n % 4) (m:=3) (by omega) (by show _<=3;omega) (by omega);rw [Yf,XK,Xz,Yn,<- List.map_take] at this;exact this
  generalize Sl.cut (Zj (Y3 (Zc b19 0 Y5)) 3 3) 1 0 (1+x.n / 4 % 3) 3=s at*;generalize Sl.cut (Zj (Y3 (Zc b28 0 Y5)) 3 3) 1 0 (x.n % 4) 3=c' at*;refine st.set0 (w':=Gr.arr {cM (fJ x) with YY:=jt x} c' n t s Zi Zi Zi) (Zn rfl) rfl λF10 st=> ?_;refine ⟨Zi,st.ld0 rfl,?_⟩;refine st.runv (kL 0 _) λG6 F11 l6 st=> ?_;refine ⟨_,rfl,st.ld0 rfl,rfl,?_⟩;refine st.newG λb38 G7 F12 l7 q38 _ st=> ?_;have hsy:RL G7 (Zj (Y3 (Zc b38 0 Y5)) 1 1) [(⟨Y8,0⟩:Sy)]:=⟨[_],.cons rfl .nil,RdS.new q38 rfl rfl (W8 _)⟩;refine st.run (tM ⟨#[102,105,114,115,116]⟩ 0 hsy) λ_ G8 F13 hr l8 st=> ?_;obtain ⟨w2,rfl,hw2⟩:=hr;refine ⟨_,rfl,st.ld0 rfl,Mem.len hw2,?_⟩;obtain ⟨_,_,T⟩:=Ob;refine (st.nilOwn 55 13).push0 T (c:=w2) (Mem.len hw2) (Mem.st hw2) (by decide) λs' G9 F14 l9 st hl'=> ?_;obtain ⟨G10,l10,⟨H,hA,hH⟩,st⟩:=st.pin;have hps:RL G10 s' [bE ⟨#[102,105,114,115,116]⟩ 0 [(⟨Y8,0⟩:Sy)]]:=⟨[w2],.cons (Mem.le (aa l9 l10) hw2) .nil,by rw [cJ];exact (bV.rd hA).le hH⟩;refine st.set0 (w':=Gr.arr {cM (fJ x) with YY:=jt x,YV:=[bE ⟨#[102,105,114,115,116]⟩ 0 [⟨Y8,0⟩]]} c' n t s s' Zi Zi) (Zn rfl) rfl λF15 st=> ?_;have l5e:G5.le G10:=aa l6 (aa l7 (aa l8 (aa l9 l10)));have l4e:=aa l5 l5e;have:=Bq (K.le l5e) (g:={cM (fJ x) with YY:=jt x,YV:=[bE ⟨#[102,105,114,115,116]⟩ 0 [⟨Y8,0⟩]]}) ⟨c',n,t,s,s',Zi,Zi,rfl,hs28.le l5e,k2.le l4e,k3.le l4e,k4.le l4e,hps,.nil _,.nil _⟩ hbs st;rw [hm] at this ⊢;exact this
 ·have hkn:bN x=Y8:=by unfold bN;exact ζ (by omega)
  have e:dC x=cq (x.YZ % 8):=by unfold dC;rw [hkn,Χ rfl]
  rw [e] at hbs ⊢;have hm:cR x=6:=by unfold cR;rw [hkn,Χ rfl]
  have h6:x.YZ % 8 % 6=x.YZ % 8:=Nat.mod_eq_of_lt (by omega);rw [h6] at hw;have:=Bq K hw hbs st;rw [hm] at this ⊢;exact this
end
theorem mV {n:Nat}:∀(t:Tr) (S:List Tr),(∀x∈S,∃v l h,x=Y1 v l h/\v<n)->eH n t->∀x∈vis t S,∃v l h,x=Y1 v l h/\v<n
 |Y0 _,S,hS,_=>hS
 |Y1 v l h,S,hS,⟨h1,h2,h3⟩=>by
  unfold vis;split
  ·exact hS
  ·intro x hx;rcases W9.1 hx with hx|hx
   ·exact mV h _ (mV l S hS h2) h3 x hx
   ·rw [W5.1 hx];exact ⟨v,l,h,rfl,h1⟩
theorem Sx.fit {n:Nat} {t:Tr} (h:Sx n t) (hn:n<=6):iD (dia t) n:=by refine ⟨B4 h.1 (by have:=h.len hn;omega),λb hb=> ?_⟩;obtain ⟨x,hx,rfl⟩:=Xi.1 (show b∈(bi t).map (br (bi t)) from hb);obtain ⟨v,l,r,rfl,hv⟩:=mV t [] (λx hx=>(by cases hx)) h.2 x hx;show (v:Int)<n;omega
theorem EO {t:Tr} (h:(dia t).2=0):t=Y0 Y6:=by
 cases t with
 |Y0 b=>cases b with
  |false=>rfl
  |true=>cases h
 |Y1 v l r=>have:((num (bi (Y1 v l r)) (Y1 v l r):Nat):Int)=0:=h;simp only [num] at this;omega
def SxD (n:Nat) (d:Dia):Prop:=∃t,Sx n t/\d=dia t
theorem SxD.fit {n:Nat} {d:Dia} (h:SxD n d) (hn:n<=6):iD d n:=by obtain ⟨t,h,rfl⟩:=h;exact h.fit hn
theorem SxD.len {n:Nat} {d:Dia} (h:SxD n d) (hn:n<=6):d.1.length<=63:=by obtain ⟨t,h,rfl⟩:=h;exact h.brl hn
theorem aR (n:Nat):SxD n aK:=⟨_,Sx.Y0 n Y8,rfl⟩
instance (i:Nat) (x:Nd):Decidable (okN i x):=by unfold okN;infer_instance
theorem uV {l:List Nd} (h1:l≠[]) (h2:∀i:Fin l.length,okN i.1 (l[i.1]'i.2)) (h3:(usL l).Nodup) (h4:∀i:Fin (l.length - 1),(i.1:Int)∈usL l):GoodL l:=
 ⟨h1,λi x hx=>by obtain ⟨hi,rfl⟩:=N6.1 hx;exact h2 ⟨i,hi⟩,h3,λi hi=>h4 ⟨i,by omega⟩⟩
theorem uW {l:List Nd} (h:GoodL l) (hl:l.length<=512):fH l=0:=by unfold fH;rw [Υ (by omega),Χ h]
theorem Bt:GoodL ln.pat:=uV (by decide) (by decide) (by decide) (by decide)
theorem y4:GoodL jI.pat:=uV (by decide) (by decide) (by decide) (by decide)
theorem xp:GoodL gS.pat:=uV (by decide) (by decide) (by decide) (by decide)
theorem Jb:LgL ln.pat (bs ln.smp):=by
 obtain ⟨ns,h⟩:=iJ Bt;unfold LgL;generalize bS ln.pat=t at h;have e3:ln.pat[ln.pat.length - 1]? =Y3 ⟨2,0,0,0,2⟩:=rfl;have e0:ln.pat[0]? =Y3 ⟨1,97,122,0,0⟩:=rfl;have e2:ln.pat[2]? =Y3 ⟨4,0,0,1,0⟩:=rfl;cases h with
 |emp hx hk=>rw [e3] at hx;cases hx;cases hk
 |rng hx hk=>rw [e3] at hx;cases hx;cases hk
 |alt hx hk=>rw [e3] at hx;cases hx;cases hk
 |rep hx hk=>rw [e3] at hx;cases hx;cases hk
 | @seq _ a b x t u na nb hx hk ha hb h1 h2=>
  rw [e3] at hx;cases hx;obtain rfl:a=0:=by have:(0:Int)=a:=ha;omega
  obtain rfl:b=2:=by have:(2:Int)=b:=hb;omega
  refine ⟨[120],[],rfl,?_,?_⟩
  ·cases h1 with
   |emp hx hk=>rw [e0] at hx;cases hx;cases hk
   |seq hx hk=>rw [e0] at hx;cases hx;cases hk
   |alt hx hk=>rw [e0] at hx;cases hx;cases hk
   |rep hx hk=>rw [e0] at hx;cases hx;cases hk
   | @rng _ lo hi x hx hk hlo hhi _ _=>
    rw [e0] at hx;cases hx;refine ⟨120,rfl,?_,?_⟩
    ·have:(97:Int)=lo:=hlo;omega
    ·have:(122:Int)=hi:=hhi;omega
  ·cases h2 with
   |emp hx hk=>rw [e2] at hx;cases hx;cases hk
   |seq hx hk=>rw [e2] at hx;cases hx;cases hk
   |alt hx hk=>rw [e2] at hx;cases hx;cases hk
   |rng hx hk=>rw [e2] at hx;cases hx;cases hk
   |rep hx hk ha h=>exact .nil
abbrev qx (t:Tk):Tk:={t with cond:=aK}
def PX (done:List ο) (t:Tk):Prop:=t.name≠emp/\t.name ∉ done/\0<=t.cls/\t.cls<=2/\(t.lit≠emp->t.smp=emp/\t.pat=[])/\(t.lit=emp->fH t.pat=0/\(t.cls=0->t.smp≠emp/\LgL t.pat (bs t.smp))/\(t.cls≠0->t.smp=emp))
def EP (done:List ο):List Tk->Prop
 |[]=>True
 |t::r=>PX done t/\EP (done++[t.name]) r
theorem xq {n:Nat}:∀(l:List Tk) (done:List ο),EP done (l.map qx)->(∀t∈l,iD t.cond n)->di n done l
 |[],_,_,_=>trivial
 |t::l,done,⟨⟨h1,h2,h3,h4,h5,h6⟩,h⟩,hf=>⟨⟨h1,h2,h3,h4,hf t (by simp),h5,h6⟩,xq l _ h λx hx=>hf x (by simp [hx])⟩
theorem ji {done:List ο} {x:ο} (h1:x≠emp) (h2:x ∉ done):PX done (tkL x):=⟨h1,h2,YK 0,by show (0:Int)<=2;decide,λ_=>⟨rfl,rfl⟩,λh=>absurd h h1⟩
theorem EQ:EP [] dN:=by
 refine ⟨⟨by decide,by decide,by decide,by decide,λh=>absurd rfl h,λ_=>⟨uW Bt (by decide),λ_=>⟨by decide,Jb⟩,λh=>absurd rfl h⟩⟩,ji (by decide) (by decide),ji (by decide) (by decide),ji (by decide) (by decide),ji (by decide) (by decide),ji (by decide) (by decide),ji (by decide) (by decide),ji (by decide) (by decide),ji (by decide) (by decide),?_,?_,trivial⟩
 ·exact ⟨by decide,by decide,by decide,by decide,λh=>absurd rfl h,λ_=>⟨uW y4 (by decide),λh=>(by cases h),λ_=>rfl⟩⟩
 ·exact ⟨by decide,by decide,by decide,by decide,λh=>absurd rfl h,λ_=>⟨uW xp (by decide),λh=>(by cases h),λ_=>rfl⟩⟩
def abc:List ο:=[⟨#[65]⟩,⟨#[66]⟩,⟨#[67]⟩]
structure PrI (n nn:Nat) (p:Pr):Prop where
 cond:SxD n p.cond
 left:0<=p.left/\p.left<nn
 rl:p.right.length<=5
 right:∀s∈p.right,0<=s.i/\(s.t=Y8->s.i<9)/\(s.t=Y6->s.i<nn)
 rank: -1<=p.rank/\p.rank<=1
 lay:p.lay.length<=2
 det:nq p
 nm:p.name≠emp/\p.name.size<=13
structure MG (g:Gr):Prop where
 cs:∃n,n<=3/\g.YY=abc.take n
 fam:∃t,Sx g.YY.length t/\t≠Y0 Y6/\g.fam=dia t
 YW:bv g.YW/\∀s∈g.YW,s.size<=10
 start:g.start=0
 YX:g.YX.map qx=dN/\∀t∈g.YX,SxD g.YY.length t.cond
 names:(g.YV.map Pr.name).Nodup/\∀p∈g.YV,∀k,g.YV.length<=k->k<100->p.name≠be k
 YV:∀p∈g.YV,PrI g.YY.length g.YW.length p
 lvs:dc g [] g.lvs/\∀l∈g.lvs,SxD g.YY.length l.cond
 fils:∀x∈g.fils,ce g x/\SxD g.YY.length x.cond/\x.YX.length<=2
theorem MG.tok {g:Gr} (h:MG g) {i:Nat} (hi:i<9):∃t,g.YX[i]? =Y3 t/\t.cls=0:=by
 have hl:g.YX.length=11:=by have:=congrArg List.length h.YX.1;rw [Xd] at this;exact this
 have hx:=N5 (show i<g.YX.length by omega);refine ⟨_,hx,?_⟩;have h1:=congrArg (λl=>l[i]?) h.YX.1;simp only [Xj,hx,XT] at h1;have h2:∀j:Fin 9,∀t,dN[j.1]? =Y3 t->t.cls=0:=by
  intro j t ht;have:∀j:Fin 9,(dN[j.1]?).map Tk.cls=Y3 0:=by decide
  have:=this j;rw [ht] at this;exact Xy this
 exact h2 ⟨i,hi⟩ (qx _) h1.symm
theorem MG.sym {g:Gr} (h:MG g) {s:Sy} (h1:0<=s.i/\(s.t=Y8->s.i<9)/\(s.t=Y6->s.i<g.YW.length)):kj g s:=by refine ⟨h1.1,h1.2.2,λht=>h.tok (by have:=h1.2.1 ht;omega)⟩
theorem xr {g:Gr}:∀(l:List Pr) (done:List ο),(∀p∈l,eX g p/\p.name≠emp/\iD p.cond g.YY.length/\-1<=p.rank/\p.rank<=1/\nq p)->(done++l.map Pr.name).Nodup->cN g done l=0
 |[],_,_,_=>rfl
 |p::l,done,h,hn=>by
  obtain ⟨h1,h2,h3,h4,h5,h6⟩:=h p (by simp);have hnd:p.name ∉ done:=λhm=>by rw [Xw,Xv] at hn;exact hn.2.2 _ hm _ (by simp) rfl
  unfold cN;rw [Υ (μ h1),Υ (μ ⟨h2,hnd,h3,h4,h5,h6⟩)];refine xr l _ (λq hq=>h q (by simp [hq])) ?_;rw [XA];exact hn
theorem NX {n:Nat} (hn:n<=3):(∀s∈abc.take n,nj s)/\bv (abc.take n)/\(abc.take n).length<=3:=by
 have h:n=0\/n=1\/n=2\/n=3:=by omega
 have ok:∀s∈abc,nj s:=by
  intro s hs;unfold nj;rcases W6.1 hs with rfl|hs
  ·decide+kernel
  rcases W6.1 hs with rfl|hs
  ·decide+kernel
  rcases W6.1 hs with rfl|hs
  ·decide+kernel
  cases hs
 refine ⟨λs hs=>ok s (Yc hs),?_,by rw [Xe];omega⟩;unfold bv;rcases h with rfl|rfl|rfl|rfl<;>decide
theorem MG.ok {g:Gr} {a b:Nat} (h:MG g) (hb:Bd g a b) (ha:a<=2000) (hb':b<=2000):OkG g:=by
 obtain ⟨n,hn,hc⟩:=h.cs;have hcl:=hb.c;have hpl:=hb.p;have hnl:=hb.n;have htl:=hb.t;have hll:=hb.l;have hfl:=hb.f;obtain ⟨t,ht,ht0,hf⟩:=h.fam;obtain ⟨o1,o2,o3⟩:=NX hn;refine ⟨?_,⟨by rw [hc];exact o1,by rw [hc];exact o2,by rw [hf];exact ht.fit (by omega),λe=>ht0 (EO (by rw [<- hf];exact e))⟩,?_,⟨h.YW.1,by rw [h.start];exact YK 0,by rw [h.start];have:=hb.n0;omega⟩,?_,h.lvs.1,λx hx=>(h.fils x hx).1⟩
 ·unfold bM;rw [Bool.or_eq_false_iff];refine ⟨ι (by omega),?_⟩;rw [List.any_eq_false];intro p hp;have h1:=(h.YV p hp).rl;have h2:=(h.YV p hp).lay;rw [δ];omega
 ·refine xq _ _ ?_ λt ht=>(h.YX.2 t ht).fit (by omega);rw [h.YX.1];exact EQ
 ·refine xr _ _ (λp hp=> ?_) (by rw [XM];exact h.names.1);have hI:=h.YV p hp;exact ⟨⟨h.sym ⟨hI.left.1,λh=>(by cases h),λ_=>hI.left.2⟩,λs hs=>h.sym (hI.right s hs)⟩,hI.nm.1,hI.cond.fit (by omega),hI.rank.1,hI.rank.2,hI.det⟩
theorem MG.sz {g:Gr} {a b:Nat} (h:MG g) (hb:Bd g a b):Sz g:=by
 refine ⟨λs hs=> ?_,λt ht=> ?_,λl hl=> ?_,λf hf=> ?_⟩
 ·obtain ⟨n,hn,hc⟩:=h.cs;rw [hc] at hs;have:∀s∈abc,s.size<=1000000000:=by decide
  exact this s (Yc hs)
 ·have:qx t∈dN:=by rw [<- h.YX.1];exact YQ ht
  have h2:∀u∈dN.map Tk.smp,u.size<=100000:=by decide
  exact h2 _ (Xi.2 ⟨_,this,rfl⟩)
 ·have:=hb.lp l hl;omega
 ·have:=(h.fils f hf).2.2;omega
theorem d8 {g g':Gr} (hc:g'.YY.length=g.YY.length) (hp:g.YV.length<=g'.YV.length):∀(l:List Lv) (done:Φ),dc g done l->dc g' done l
 |[],_,_=>trivial
 |x::l,done,⟨⟨h1,h2,h3,h4,h5⟩,h⟩=>⟨⟨h1,h2,by rw [hc];exact h3,λp hp'=>⟨(h4 p hp').1,by have:=(h4 p hp').2;omega⟩,h5⟩,d8 hc hp l _ h⟩
theorem qy {g:Gr} {ps:List Pr} {x:Fi} (h:ce g x):ce {g with YV:=g.YV++ps} x:=by
 refine ⟨h.1,?_⟩;rcases h.2 with ⟨k,⟨a,b,c,p,q,hp,hq,hr⟩,r⟩|h|h
 ·exact .inl ⟨k,⟨a,b,c,p,q,by rw [Xh (N6.1 hp).1];exact hp,by rw [Xh (N6.1 hq).1];exact hq,hr⟩,r⟩
 ·exact .inr (.inl h)
 ·exact .inr (.inr h)
theorem uX {i k:Nat} (hi:i<100) (hk:k<100) (h:be i=be k):i=k:=by
 have h1:(#[112,UInt8.ofNat (97+i)]:Array UInt8)= #[112,UInt8.ofNat (97+k)]:=congrArg ByteArray.data h;have h2:=congrArg (λa=>a[1]?) h1;have h3:UInt8.ofNat (97+i)=UInt8.ofNat (97+k):=by simpa using h2
 have h4:=congrArg UInt8.toNat h3;simp at h4;omega
theorem MG.line {g:Gr} (h:MG g) {p:Pr} (hn:p.name=be g.YV.length) (hp:PrI g.YY.length g.YW.length p) (hl:g.YV.length<100):MG {g with YV:=g.YV++[p]}:=by
 refine ⟨h.cs,h.fam,h.YW,h.start,h.YX,⟨?_,λq hq k hk hk2=> ?_⟩,λq hq=> ?_,⟨d8 (g:=g) (g':={g with YV:=g.YV++[p]}) rfl (by show _<=(g.YV++[p]).length;rw [Xa];omega) _ _ h.lvs.1,h.lvs.2⟩,λx hx=>⟨qy (h.fils x hx).1,(h.fils x hx).2⟩⟩
 ·show ((g.YV++[p]).map Pr.name).Nodup;rw [Xt,Xv];refine ⟨h.names.1,by simp,λx hx y hy=> ?_⟩;rw [Xw,List.map_nil,W5] at hy;obtain ⟨q,hq,rfl⟩:=Xi.1 hx;rw [hy,hn];exact h.names.2 q hq _ (W8 _) hl
 ·replace hk:(g.YV++[p]).length<=k:=hk;rw [Xa,Xk] at hk;rcases W9.1 hq with hq|hq
  ·exact h.names.2 q hq k (by omega) hk2
  ·rw [W5.1 hq,hn];intro e;have:=uX hl hk2 e;omega
 ·rcases W9.1 hq with hq|hq
  ·exact h.YV q hq
  ·rw [W5.1 hq];exact hp
theorem jj (r:List Sy) (lo hi:Int):cS r 0 0 lo hi:=.inl ⟨rfl,rfl⟩
theorem ER {g:Gr} (x:Ln) (hc:g.YY.length<=3) (hn:g.YW.length≠0):PrI g.YY.length g.YW.length (jq g x):=by
 have hlen:(aM g.YW.length x).length<=4:=by unfold aM;rw [Xd,Xe];omega
 refine ⟨⟨_,jO (by omega),rfl⟩,⟨by show (0:Int)<=((x.left % g.YW.length:Nat):Int);omega,?_⟩,by show (aM _ _).length<=5;omega,λs hs=> ?_,⟨by show (-1:Int)<=0;decide,by show (0:Int)<=1;decide⟩,by show 0<=2;decide,⟨λy hy=>(by cases hy),jj _ _ _,jj _ _ _,λh=>(by cases h)⟩,?_,?_⟩
 ·show ((x.left % g.YW.length:Nat):Int)<_;have:=X8 x.left (YD hn);omega
 ·obtain ⟨b,hb,rfl⟩:=Xi.1 (show s∈(x.right.take 4).map (lu g.YW.length) from hs);unfold lu;split
  ·exact ⟨by show (0:Int)<=((b % 14:Nat):Int);omega,λ_=>by show ((b % 14:Nat):Int)<9;omega,λh=>(by cases h)⟩
  ·refine ⟨by show (0:Int)<=(((b % 14 - 9) % g.YW.length:Nat):Int);omega,λh=>(by cases h),λ_=> ?_⟩;show (((b % 14 - 9) % g.YW.length:Nat):Int)<_;have:=X8 (b % 14 - 9) (YD hn);omega
 ·intro e;have h2:(2:Nat)=0:=congrArg ByteArray.size (show be g.YV.length=emp from e);cases h2
 ·show (be g.YV.length).size<=13;show 2<=13;decide
theorem Jc {n nn:Nat} {p:Pr} (h:PrI n nn p) (_:p.rank=0) (_:p.lay=[]) (h3:p.sco=qS) (h4:p.brk=Y6) (m:Nat):PrI n nn (cE p m):=by
 obtain ⟨a1,a2,a3,a4,a5,a6,a7,a8⟩:=h;have e1:∀r,cS r qS.d qS.k 1 7:=λr=>jj r _ _;have e2:∀r,cS r qS.u qS.a 0 255:=λr=>jj r _ _;have hl:∀{q:Pr},q.lay=[]->∀x∈q.lay,ly q.right x:=λe x hx=>by rw [e] at hx;cases hx
 unfold cE;split
 ·exact ⟨a1,a2,a3,a4,a5,a6,a7,a8⟩
 rename_i hn0;split
 ·exact ⟨a1,a2,a3,a4,⟨by show (-1:Int)<=1;decide,by show (1:Int)<=1;decide⟩,a6,⟨a7.1,a7.2.1,a7.2.2.1,λh=>by rw [show (p.brk=Y8)=(Y6=Y8) by rw [h4]] at h;cases h⟩,a8⟩
 split
 ·exact ⟨a1,a2,a3,a4,⟨by show (-1:Int)<=-1;decide,by show (-1:Int)<=1;decide⟩,a6,⟨a7.1,a7.2.1,a7.2.2.1,λh=>by rw [show (p.brk=Y8)=(Y6=Y8) by rw [h4]] at h;cases h⟩,a8⟩
 split
 ·refine ⟨a1,a2,a3,a4,a5,a6,⟨a7.1,a7.2.1,a7.2.2.1,λh=> ?_⟩,a8⟩;have:xN p:=by have:qL p=Y8:=h;unfold qL at this;simpa using this
  exact this
 have hp:0<p.right.length:=YD hn0;split
 ·have hm:=X8 (m / 8 / 4) hp;refine ⟨a1,a2,a3,a4,a5,by show 1<=2;decide,⟨λx hx=> ?_,a7.2.1,a7.2.2.1,λh=>by rw [show (p.brk=Y8)=(Y6=Y8) by rw [h4]] at h;cases h⟩,a8⟩;rw [W5.1 hx];refine ⟨by show (1:Int)<=((1+m / 8 % 4:Nat):Int);omega,by show ((1+m / 8 % 4:Nat):Int)<=4;omega,by show (0:Int)<=((m / 8 / 4 % p.right.length:Nat):Int);omega,by show ((m / 8 / 4 % p.right.length:Nat):Int)<p.right.length;omega,?_,?_,λh=> ?_⟩
  ·show (0:Int)<=if m / 8 % 4=0 then 0 else ((p.right.length - 1:Nat):Int)
   split<;>omega
  ·show (if m / 8 % 4=0 then (0:Int) else ((p.right.length - 1:Nat):Int))<p.right.length;split<;>omega
  ·have h:((1+m / 8 % 4:Nat):Int)=1:=h;show (if m / 8 % 4=0 then (0:Int) else ((p.right.length - 1:Nat):Int))=0;rw [Χ (by omega)]
 split
 ·exact ⟨a1,a2,a3,a4,a5,a6,⟨a7.1,by show cS p.right p.sco.d p.sco.k 1 7;rw [h3];exact e1 _,by show cS p.right p.sco.u p.sco.a 0 255;rw [h3];exact e2 _,λh=>by rw [show (p.brk=Y8)=(Y6=Y8) by rw [h4]] at h;cases h⟩,a8⟩
 have hlt:=X8 (m / 8) hp;have ex:(p.right.getD (m / 8 % p.right.length) ⟨Y6,0⟩).t=Y8->∃s,p.right[(((m / 8 % p.right.length+1:Nat):Int) - 1).toNat]? =Y3 s/\s.t=Y8:=λht=>by rw [show (((m / 8 % p.right.length+1:Nat):Int) - 1).toNat=m / 8 % p.right.length by omega];refine ⟨_,N5 hlt,?_⟩;rw [Xx,N5 hlt] at ht;exact ht
 split
 ·split
  ·rename_i ht;exact ⟨a1,a2,a3,a4,a5,a6,⟨a7.1,.inr ⟨by show (0:Int)<((m / 8 % p.right.length+1:Nat):Int);omega,by show ((m / 8 % p.right.length+1:Nat):Int)<=p.right.length;omega,ex ht,by show (1:Int)<=((1+m / 8 % 2:Nat):Int);omega,by show ((1+m / 8 % 2:Nat):Int)<=7;omega⟩,jj _ _ _,λh=>by rw [show (p.brk=Y8)=(Y6=Y8) by rw [h4]] at h;cases h⟩,a8⟩
  ·exact ⟨a1,a2,a3,a4,a5,a6,a7,a8⟩
 split
 ·split
  ·rename_i ht;exact ⟨a1,a2,a3,a4,a5,a6,⟨a7.1,jj _ _ _,.inr ⟨by show (0:Int)<((m / 8 % p.right.length+1:Nat):Int);omega,by show ((m / 8 % p.right.length+1:Nat):Int)<=p.right.length;omega,ex ht,by show (0:Int)<=((1+m / 8 % 7:Nat):Int);omega,by show ((1+m / 8 % 7:Nat):Int)<=255;omega⟩,λh=>by rw [show (p.brk=Y8)=(Y6=Y8) by rw [h4]] at h;cases h⟩,a8⟩
  ·exact ⟨a1,a2,a3,a4,a5,a6,a7,a8⟩
 ·exact ⟨a1,a2,a3,a4,a5,a6,a7,a8⟩
theorem qz (p:Pr) (m:Nat):(cE p m).name=p.name:=by
 unfold cE
 repeat' split
 all_goals rfl
theorem MG.lineG {g:Gr} (h:MG g) {a b:Nat} (hb:Bd g a b) (ha:a<100) (x:Ln) (kn:Bool):MG (lineG g x kn):=by
 have hp:=hb.p;unfold Go.Proofs.YtcemhghkipgdiaaGreatDoor.lineG;split
 ·exact h
 ·exact h.line (by rw [qz];rfl) (Jc (ER x hb.c hb.n0) rfl rfl rfl rfl _) (by omega)
theorem qA {g:Gr} {y:Lv}:∀(l:List Lv) (done:Φ),dc g done l->Jw g (done++l.flatMap Lv.ps) y->dc g done (l++[y])
 |[],done,_,h=>by simp only [List.flatMap_nil,XH] at h;exact ⟨h,trivial⟩
 |x::l,done,⟨h1,h2⟩,h=>⟨h1,qA l _ h2 (by rw [XA];exact h)⟩
theorem MG.fil {g:Gr} (h:MG g) {y:Fi} (hd:SxD g.YY.length y.cond) (ht:y.YX.length<=2):MG (ki g y):=by
 unfold ki;split
 ·rename_i hy;refine ⟨h.cs,h.fam,h.YW,h.start,h.YX,h.names,h.YV,⟨d8 (g:=g) (by rfl) (by exact W8 _) _ _ h.lvs.1,h.lvs.2⟩,λx hx=> ?_⟩;rcases W9.1 hx with hx|hx
  ·exact h.fils x hx
  ·rw [W5.1 hx];exact ⟨hy,hd,ht⟩
 ·exact h
theorem MG.lvl {g:Gr} (h:MG g) {a b:Nat} (hb:Bd g a b) (x:Ru):MG (ni g x):=by
 have hp0:0<g.YV.length:=YD hb.p0;have hd:SxD g.YY.length (ruD g x):=⟨_,jO (by have:=hb.c;omega),rfl⟩;have ha:=X8 x.a hp0;have hbb:=X8 x.b hp0;unfold ni;split
 ·exact h
 ·rename_i hna;refine ⟨h.cs,h.fam,h.YW,h.start,h.YX,h.names,h.YV,⟨d8 (g:=g) (by rfl) (by exact W8 _) _ _ (qA _ _ h.lvs.1 ?_),λy hy=> ?_⟩,h.fils⟩
  ·rw [XM];refine ⟨by show (0:Int)<=((x.c % 4:Nat):Int);omega,by show ((x.c % 4:Nat):Int)<=3;omega,hd.fit (by have:=hb.c;omega),λp hp=> ?_,?_,λp hp=> ?_⟩
   ·rcases W6.1 hp with rfl|hp
    ·omega
    ·split at hp
     ·rw [W5.1 hp];omega
     ·cases hp
   ·show (_::_).Nodup;rw [X1];split
    ·rename_i hq;refine ⟨?_,by simp⟩;rw [W5];omega
    ·exact ⟨by simp,.nil⟩
   ·rcases W6.1 hp with rfl|hp
    ·exact hna
    ·split at hp
     ·rename_i hq;rw [W5.1 hp];exact hq.2
     ·cases hp
  ·rcases W9.1 hy with hy|hy
   ·exact h.lvs.2 y hy
   ·rw [W5.1 hy];exact hd
theorem Du {g g':Gr} (h1:g'.YY=g.YY) (h2:g'.YV=g.YV) (h3:g'.YW=g.YW) (ht:∀(i:Nat) (t:Tk),g.YX[i]? =Y3 t->∃t':Tk,g'.YX[i]? =Y3 t'/\t'.cls=t.cls/\t'.lit=t.lit) {x:Fi} (h:ce g x):ce g' x:=by
 unfold ce at h ⊢;unfold oq at h ⊢;rw [h1,h2,h3];refine ⟨h.1,?_⟩;rcases h.2 with h|⟨k,⟨a,b,c1,c2,c3⟩,r⟩|⟨k,⟨⟨c1,c2,c3⟩,a,t,t1,t2,t3⟩,r⟩
 ·exact .inl h
 ·refine .inr (.inl ⟨k,⟨a,b,c1,λn hn=> ?_,c3⟩,r⟩);obtain ⟨n0,t,t1,t2⟩:=c2 n hn;obtain ⟨t',u1,u2,u3⟩:=ht _ _ t1;exact ⟨n0,t',u1,by show decide (t'.cls=0)=Y8;rw [u2];exact t2⟩
 ·obtain ⟨t',u1,u2,u3⟩:=ht _ _ t1;refine .inr (.inr ⟨k,⟨⟨c1,λn hn=> ?_,c3⟩,a,t',u1,by rw [u2];exact t2,by rw [u3];exact t3⟩,r⟩);obtain ⟨n0,t,t1,t2⟩:=c2 n hn;obtain ⟨t',u1,u2,u3⟩:=ht _ _ t1;exact ⟨n0,t',u1,by show (!decide (t'.lit=emp))=Y8;rw [u3];exact t2⟩
theorem MG.tokG {g:Gr} (h:MG g) {a b:Nat} (hb:Bd g a b) (x:Ru):MG (tokG g x):=by
 have hd:SxD g.YY.length (ruD g x):=⟨_,jO (by have:=hb.c;omega),rfl⟩;unfold Go.Proofs.YtcemhghkipgdiaaGreatDoor.tokG;refine ⟨h.cs,h.fam,h.YW,h.start,⟨?_,λt ht=> ?_⟩,h.names,h.YV,⟨d8 (g:=g) (by rfl) (by exact W8 _) _ _ h.lvs.1,h.lvs.2⟩,λy hy=>⟨Du (g:=g) (by rfl) (by rfl) (by rfl) (λi t ht=> ?_) (h.fils y hy).1,(h.fils y hy).2⟩⟩
 ·rw [<- h.YX.1];apply XR;intro i;simp only [Xj,Yr];cases g.YX[i]? with
  |none=>rfl
  |some t=>simp only [XT];split<;>rfl
 ·obtain ⟨i,hi⟩:=List.mem_iff_getElem?.1 ht;rw [Yr] at hi;cases ht':g.YX[i]? with
  |none=>rw [ht'] at hi;simp at hi
  |some u=>
   rw [ht'] at hi;simp only [Option.map_eq_map,XT,Option.some.injEq] at hi;subst hi;split
   ·exact hd
   ·exact h.YX.2 u (W7 ht')
 ·show ∃t',(g.YX.modify (x.a % 9) _)[i]? =Y3 t'/\_;rw [Yr,ht];refine ⟨_,rfl,?_⟩;simp only [];split<;>exact ⟨rfl,rfl⟩
theorem MG.ruleG {g:Gr} (h:MG g) {a b:Nat} (hb:Bd g a b) (x:Ru):MG (ruleG g x):=by
 have hd:SxD g.YY.length (ruD g x):=⟨_,jO (by have:=hb.c;omega),rfl⟩;unfold Go.Proofs.YtcemhghkipgdiaaGreatDoor.ruleG;split
 ·exact h.lvl hb x
 split
 ·exact h.fil hd (by show 0<=2;decide)
 split
 ·exact h.fil hd (by show 1<=2;decide)
 split
 ·exact h.fil hd (by show 1<=2;decide)
 ·exact h.tokG hb x
theorem MG.lines {x:Rw}:∀(l:List Ln) {g:Gr} {a b:Nat},MG g->Bd g a b->a+l.length<100->MG (dP x l g)
 |[],g,a,b,h,_,_=>h
 |y::l,g,a,b,h,hb,hl=>by rw [Xl] at hl;exact MG.lines (x:=x) l (h.lineG hb (by omega) y (bN x)) (BE hb y (bN x)) (by omega)
theorem MG.rules:∀(l:List Ru) {g:Gr} {a b:Nat},MG g->Bd g a b->MG (eg l g)
 |[],g,a,b,h,_=>h
 |y::l,g,a,b,h,hb=>MG.rules l (h.ruleG hb y) (BF hb y)
theorem MG.famG {g:Gr} (h:MG g) {a b:Nat} (hb:Bd g a b) (x:Rw):MG (famG x g):=by
 unfold Go.Proofs.YtcemhghkipgdiaaGreatDoor.famG;split
 ·rename_i hc;refine ⟨h.cs,⟨xI x g.YY.length,vz (n:=g.YY.length) _ (by have:=hb.c;omega) g.YY.length 0 0 (by omega),λe=>hc.2 (by rw [e];rfl),rfl⟩,h.YW,h.start,h.YX,h.names,h.YV,⟨d8 (g:=g) (by rfl) (by exact W8 _) _ _ h.lvs.1,h.lvs.2⟩,h.fils⟩
 ·exact h
instance decSy (q:Option Sy):Decidable (∃s,q=Y3 s/\s.t=Y8):=
 match q with
 |none=>isFalse λ⟨_,h,_⟩=>by cases h
 |some s=>if h:s.t=Y8 then isTrue ⟨s,rfl,h⟩ else isFalse λ⟨_,h1,h2⟩=>by cases h1;exact h h2
instance decEntry (r:List Sy) (k v lo hi:Int):Decidable (cS r k v lo hi):=by unfold cS;infer_instance
instance decLay (r:List Sy) (x:Cn):Decidable (ly r x):=by unfold ly;infer_instance
instance decBrk (p:Pr):Decidable (xN p):=by unfold xN;infer_instance
instance decDet (p:Pr):Decidable (nq p):=by unfold nq;infer_instance
def NY (nn:Nat) (p:Pr):Prop:=(0<=p.left/\p.left<nn)/\p.right.length<=5/\(∀s∈p.right,0<=s.i/\(s.t=Y8->s.i<9)/\(s.t=Y6->s.i<nn))/\(-1<=p.rank/\p.rank<=1)/\p.lay.length<=2/\nq p/\(p.name≠emp/\p.name.size<=13)
instance decPri (nn:Nat) (p:Pr):Decidable (NY nn p):=by unfold NY;infer_instance
theorem ba {n nn:Nat} {p:Pr} (h:NY nn p) (hc:SxD n p.cond):PrI n nn p:=by obtain ⟨h1,h2,h3,h4,h5,h6,h7⟩:=h;exact ⟨hc,h1,h2,h3,h4,h5,h6,h7⟩
theorem d9 {n v:Nat} (hv:v<n) (hn:n<=6):SxD n (dia (tv v)):=⟨_,Sx.tv hv hn,rfl⟩
theorem oY {n v:Nat} (hv:v<n) (hn:n<=6):SxD n (dq v):=⟨_,(Sx.tv hv hn).ap2 (Sx.Y0 n Y8),rfl⟩
def ES (s:ο):Prop:=s.size≠2\/s.data[0]?≠Y3 112
instance (s:ο):Decidable (ES s):=by unfold ES;infer_instance
theorem Jd {s:ο} (h:ES s) (k:Nat):s≠be k:=by
 intro e;rcases h with h|h
 ·exact h (by rw [e];rfl)
 ·exact h (by rw [e];rfl)
theorem nX {g:Gr} {n:Nat} (hn:n<=3) (hc:g.YY=abc.take n) (hf:g.fam=aK) (ht:g.YX=dN) (hs:g.start=0) (h1:bv g.YW) (h2:∀s∈g.YW,s.size<=10) (h3:(g.YV.map Pr.name).Nodup) (h4:∀s∈g.YV.map Pr.name,ES s)
  (h5:∀p∈g.YV,PrI g.YY.length g.YW.length p) (h6:dc g [] g.lvs/\∀l∈g.lvs,SxD g.YY.length l.cond) (h7:∀x∈g.fils,ce g x/\SxD g.YY.length x.cond/\x.YX.length<=2):MG g:=by
 have e:dN.map qx=dN:=rfl;refine ⟨⟨n,hn,hc⟩,⟨_,Sx.Y0 _ Y8,by simp,hf⟩,⟨h1,h2⟩,hs,⟨by rw [ht];exact e,λt htm=> ?_⟩,⟨h3,λp hp k _ _=>Jd (h4 _ (YQ hp)) k⟩,h5,h6,h7⟩;rw [ht,<- e] at htm;obtain ⟨u,_,rfl⟩:=Xi.1 htm;exact aR _
theorem Je {g:Gr} (ht:g.YX=dN) (i:Nat) {kd:Tk->Bool} {t:Tk} (h:dN[i]? =Y3 t) (hk:kd t=Y8):0<=(i:Int)/\∃t,g.YX[(i:Int).toNat]? =Y3 t/\kd t=Y8:=⟨by omega,t,by rw [ht,N4];exact h,hk⟩
theorem PY {g:Gr} {kd:Tk->Bool} {i:Int} (h:0<=i/\∃t,g.YX[i.toNat]? =Y3 t/\kd t=Y8):gf g kd [i]:=by refine ⟨by simp,λn hn=>by rw [W5.1 hn];exact h,λj x y _ hy=> ?_⟩;simp at hy
theorem Vd {g:Gr} {kd:Tk->Bool} {i j:Int} (h:0<=i/\∃t,g.YX[i.toNat]? =Y3 t/\kd t=Y8) (h':0<=j/\∃t,g.YX[j.toNat]? =Y3 t/\kd t=Y8) (hij:i<j):gf g kd [i,j]:=by
 refine ⟨by simp,λn hn=> ?_,λk x y hx hy=> ?_⟩
 ·rcases W6.1 hn with rfl|hn
  ·exact h
  ·rw [W5.1 hn];exact h'
 ·match k with
  |0=>simp at hx hy;subst hx hy;exact hij
  |k+1=>simp at hy
theorem qB:MG cG:=by
 refine nX (n:=2) (by decide) rfl rfl rfl rfl (by unfold bv;decide) (by decide) (by decide) (by decide) (λp hp=> ?_) ⟨?_,?_⟩ ?_
 ·rcases W6.1 hp with rfl|hp
  ·exact ba (by decide) (aR _)
  rcases W6.1 hp with rfl|hp
  ·exact ba (by decide) (aR _)
  rcases W6.1 hp with rfl|hp
  ·exact ba (by decide) (aR _)
  rcases W6.1 hp with rfl|hp
  ·exact ba (by decide) (aR _)
  rcases W6.1 hp with rfl|hp
  ·exact ba (by decide) (d9 (by decide) (by decide))
  cases hp
 ·refine ⟨⟨by decide,by decide,(aR 2).fit (by decide),by decide,by decide,by decide⟩,⟨by decide,by decide,(aR 2).fit (by decide),by decide,by decide,by decide⟩,⟨by decide,by decide,(oY (n:=2) (v:=0) (by decide) (by decide)).fit (by decide),by decide,by decide,by decide⟩,trivial⟩
 ·intro l hl;rcases W6.1 hl with rfl|hl
  ·exact aR _
  rcases W6.1 hl with rfl|hl
  ·exact aR _
  rcases W6.1 hl with rfl|hl
  ·exact oY (by decide) (by decide)
  cases hl
 ·intro x hx;cases hx
theorem tq:MG co:=by
 refine nX (n:=2) (by decide) rfl rfl rfl rfl (by unfold bv;decide) (by decide) (by decide) (by decide) (λp hp=> ?_) ⟨?_,?_⟩ ?_
 ·rcases W6.1 hp with rfl|hp
  ·exact ba (by decide) (aR _)
  rcases W6.1 hp with rfl|hp
  ·exact ba (by decide) (aR _)
  rcases W6.1 hp with rfl|hp
  ·exact ba (by decide) (aR _)
  rcases W6.1 hp with rfl|hp
  ·exact ba (by decide) (aR _)
  rcases W6.1 hp with rfl|hp
  ·exact ba (by decide) (aR _)
  cases hp
 ·trivial
 ·intro l hl;cases hl
 ·intro x hx;rcases W6.1 hx with rfl|hx
  ·exact ⟨⟨(d9 (n:=2) (v:=0) (by decide) (by decide)).fit (by decide),.inl ⟨.inr rfl,⟨by decide,by decide,by decide,_,_,rfl,rfl,rfl⟩,rfl,rfl,rfl⟩⟩,d9 (by decide) (by decide),by decide⟩
  rcases W6.1 hx with rfl|hx
  ·exact ⟨⟨(d9 (n:=2) (v:=1) (by decide) (by decide)).fit (by decide),.inr (.inr ⟨rfl,⟨Vd (Je rfl 5 rfl (by decide)) (Je rfl 6 rfl (by decide)) (by decide),by decide,_,rfl,rfl,rfl⟩,rfl,rfl,rfl,rfl⟩)⟩,d9 (by decide) (by decide),by decide⟩
  cases hx
theorem oN:MG dm:=by
 refine nX (n:=2) (by decide) rfl rfl rfl rfl (by unfold bv;decide) (by decide) (by decide) (by decide) (λp hp=> ?_) ⟨?_,?_⟩ ?_
 ·rcases W6.1 hp with rfl|hp
  ·exact ba (by decide) (aR _)
  rcases W6.1 hp with rfl|hp
  ·exact ba (by decide) (aR _)
  rcases W6.1 hp with rfl|hp
  ·exact ba (by decide) (aR _)
  rcases W6.1 hp with rfl|hp
  ·exact ba (by decide) (aR _)
  rcases W6.1 hp with rfl|hp
  ·exact ba (by decide) (aR _)
  rcases W6.1 hp with rfl|hp
  ·exact ba (by decide) (aR _)
  rcases W6.1 hp with rfl|hp
  ·exact ba (by decide) (d9 (by decide) (by decide))
  cases hp
 ·trivial
 ·intro l hl;cases hl
 ·intro x hx;cases hx
theorem Dv:MG jJ:=by
 refine nX (n:=2) (by decide) rfl rfl rfl rfl (by unfold bv;decide) (by decide) (by decide) (by decide) (λp hp=> ?_) ⟨?_,?_⟩ ?_
 ·rcases W6.1 hp with rfl|hp
  ·exact ba (by decide) (aR _)
  rcases W6.1 hp with rfl|hp
  ·exact ba (by decide) (aR _)
  rcases W6.1 hp with rfl|hp
  ·exact ba (by decide) (aR _)
  rcases W6.1 hp with rfl|hp
  ·exact ba (by decide) (aR _)
  rcases W6.1 hp with rfl|hp
  ·exact ba (by decide) (d9 (by decide) (by decide))
  cases hp
 ·trivial
 ·intro l hl;cases hl
 ·intro x hx;cases hx
theorem y5:MG gU:=by
 refine nX (n:=2) (by decide) rfl rfl rfl rfl (by unfold bv;decide) (by decide) (by decide) (by decide) (λp hp=> ?_) ⟨?_,?_⟩ ?_
 ·rcases W6.1 hp with rfl|hp
  ·exact ba (by decide) (aR _)
  rcases W6.1 hp with rfl|hp
  ·exact ba (by decide) (aR _)
  rcases W6.1 hp with rfl|hp
  ·exact ba (by decide) (aR _)
  rcases W6.1 hp with rfl|hp
  ·exact ba (by decide) (aR _)
  rcases W6.1 hp with rfl|hp
  ·exact ba (by decide) (aR _)
  rcases W6.1 hp with rfl|hp
  ·exact ba (by decide) (d9 (by decide) (by decide))
  cases hp
 ·trivial
 ·intro l hl;cases hl
 ·intro x hx;rcases W6.1 hx with rfl|hx
  ·exact ⟨⟨(d9 (n:=2) (v:=0) (by decide) (by decide)).fit (by decide),.inr (.inl ⟨.inl rfl,⟨by decide,by decide,PY (Je rfl 0 rfl (by decide))⟩,rfl,rfl,rfl,rfl⟩)⟩,d9 (by decide) (by decide),by decide⟩
  rcases W6.1 hx with rfl|hx
  ·exact ⟨⟨(oY (n:=2) (v:=1) (by decide) (by decide)).fit (by decide),.inr (.inl ⟨.inr rfl,⟨by decide,by decide,PY (Je rfl 1 rfl (by decide))⟩,rfl,rfl,rfl,rfl⟩)⟩,oY (by decide) (by decide),by decide⟩
  cases hx
theorem y6:MG gV:=by
 refine nX (n:=2) (by decide) rfl rfl rfl rfl (by unfold bv;decide) (by decide) (by decide) (by decide) (λp hp=> ?_) ⟨?_,?_⟩ ?_
 ·rcases W6.1 hp with rfl|hp
  ·exact ba (by decide) (aR _)
  rcases W6.1 hp with rfl|hp
  ·exact ba (by decide) (aR _)
  rcases W6.1 hp with rfl|hp
  ·exact ba (by decide) (aR _)
  rcases W6.1 hp with rfl|hp
  ·exact ba (by decide) (aR _)
  rcases W6.1 hp with rfl|hp
  ·exact ba (by decide) (d9 (by decide) (by decide))
  cases hp
 ·trivial
 ·intro l hl;cases hl
 ·intro x hx;cases hx
theorem ET {k:Nat} (hk:k<6):MG (cq k):=by
 have h:k=0\/k=1\/k=2\/k=3\/k=4\/k=5:=by omega
 rcases h with rfl|rfl|rfl|rfl|rfl|rfl
 ·exact qB
 ·exact tq
 ·exact oN
 ·exact Dv
 ·exact y5
 ·exact y6
theorem EU (x:Rw):MG (dC x):=by
 unfold dC;split
 ·rename_i h;exact ET (ε h)
 ·have hn:(fJ x).length≠0:=by unfold fJ;rw [Xe];simp
  refine nX (n:=x.n % 4) (by omega) rfl rfl rfl rfl ?_ (λs hs=> ?_) (by show ([⟨#[102,105,114,115,116]⟩]:List ο).Nodup;simp) (λs hs=>by rw [W5.1 (show s∈([⟨#[102,105,114,115,116]⟩]:List ο) from hs)];decide) (λp hp=> ?_) ⟨trivial,λl hl=>(by cases hl)⟩ λx hx=>by cases hx
  ·have h:x.n / 4 % 3=0\/x.n / 4 % 3=1\/x.n / 4 % 3=2:=by omega
   show bv (fJ x);unfold fJ;rcases h with h|h|h<;>rw [h]<;>(unfold bv;decide)
  ·have:∀s∈([⟨#[83]⟩,⟨#[80]⟩,⟨#[81]⟩]:List ο),s.size<=10:=by decide
   exact this s (Yc hs)
  ·rw [W5.1 hp];refine ba ⟨⟨by decide,?_⟩,by decide,?_,by decide,by decide,by decide,by decide⟩ (aR _)
   ·show (0:Int)<(fJ x).length;omega
   ·intro s hs;rw [W5.1 hs];exact ⟨by decide,λ_=>by decide,λh=>(by cases h)⟩
theorem Bu (x:Rw):MG (dt x)/\Bd (dt x) 18 10:=by
 have hm:cR x<=10:=by unfold cR;split<;>decide
 have b1:=FE (x:=x) (qN x);have m1:=(EU x).famG (qN x) x;have b2:=qO (x:=x) (x.lines.take (cR x)) b1;have hl:(x.lines.take (cR x)).length<=10:=by rw [Xe];omega
 have hr:(x.rules.take 6).length<=6:=by rw [Xe];omega
 have m2:=MG.lines (x:=x) (x.lines.take (cR x)) m1 b1 (by omega);have b3:=qP (x.rules.take 6) b2;have m3:=MG.rules (x.rules.take 6) m2 b2;refine ⟨m3,?_⟩;obtain ⟨c1,c2,c3,c4,c5,c6,c7,c8,c9⟩:=b3;exact ⟨c1,c2,c3,c4,by unfold dt;omega,c6,by unfold dt;omega,c8,by unfold dt;omega⟩
theorem Jf {g:Gr} (h1:bM g=Y6) (h2:¬gc g):hX g=54:=by unfold hX;rw [Υ (by rw [h1];decide),Χ h2]
theorem Jg {g:Gr} (h1:bM g=Y6) (h2:gc g) (h3:¬di g.YY.length [] g.YX):hX g=51:=by unfold hX;rw [Υ (by rw [h1];decide),Υ (μ h2),Χ h3]
theorem Jh {g:Gr} (h1:bM g=Y6) (h2:gc g) (h3:di g.YY.length [] g.YX) (h4:¬eW g):hX g=50:=by unfold hX;rw [Υ (by rw [h1];decide),Υ (μ h2),Υ (μ h3),Χ h4]
theorem EV {g:Gr} {e:Int} (h1:bM g=Y6) (h2:gc g) (h3:di g.YY.length [] g.YX) (h4:eW g) (h5:cN g [] g.YV=e) (h6:e≠0):hX g=e:=by unfold hX;rw [Υ (by rw [h1];decide),Υ (μ h2),Υ (μ h3),Υ (μ h4),Χ (by rw [h5];exact h6),h5]
theorem Ji {g:Gr} (h1:bM g=Y6) (h2:gc g) (h3:di g.YY.length [] g.YX) (h4:eW g) (h5:cN g [] g.YV=0) (h6:¬dc g [] g.lvs):hX g=53:=by unfold hX;rw [Υ (by rw [h1];decide),Υ (μ h2),Υ (μ h3),Υ (μ h4),Υ (by rw [h5];decide),Χ h6]
theorem Jj {g:Gr} (h1:bM g=Y6) (h2:gc g) (h3:di g.YY.length [] g.YX) (h4:eW g) (h5:cN g [] g.YV=0) (h6:dc g [] g.lvs) (h7:¬∀x∈g.fils,ce g x):hX g=53:=by unfold hX;rw [Υ (by rw [h1];decide),Υ (μ h2),Υ (μ h3),Υ (μ h4),Υ (by rw [h5];decide),Υ (μ h6),Χ h7]
section
end
section
end
section
end
section
end
section
end
section
end
open Go.ChangeShapes Go.WideShapes Go.ChangeAt Go.RowKit Go.Deep
set_option maxRecDepth 100000
section
variable {H:Type} {enc:TypeId×ξ->H} {P:Program} {W:World}
theorem xu {α:Type} {cells:α->Ξ} {k:Nat} (hk:∀o,(cells o).length=k):∀{os:List α} {i j:Nat},j<k->(os.flatMap cells)[i*k+j]? =(os[i]?).bind λo=>(cells o)[j]?
 |[],i,j,_=>by simp
 |o::os,0,j,hj=>by rw [XS,Yf,Xm,Xh (by rw [hk];exact hj)];rfl
 |o::os,i+1,j,hj=>by rw [XS,Xn (by rw [hk,Yo];omega),hk,show (i+1)*k+j - k=i*k+j by rw [Yo];omega,xu hk hj];rfl
theorem jk {α:Type} {cells:α->Ξ} {k:Nat} (hk:∀o,(cells o).length=k):∀os:List α,(os.flatMap cells).length=os.length*k
 |[]=>by simp
 |o::os=>by rw [XS,Xa,hk,jk hk os,Xl,Yo,Nat.add_comm]
theorem mW {α:Type} [Inhabited α] {t e k:Nat} {cells:α->Ξ} {Q:α->Prop} (ht:P.underlying t=Y3 (.slice e)) (hk:P.cellsOf e=k) (hk0:0<k) (hlen:∀o,(cells o).length=k)
  (elem:∀{fuel:Nat} {cs:Ξ} {x:DataW H×List MemPlace},DataW.trod enc P W 0 (λ_=>Y8) Y8 fuel e cs=Y3 x->(x.1.weights P e).all (·<=reachBytes)=Y8->∃o,cs=cells o/\Q o)
  {fuel:Nat} {c:ξ} {x:DataW H×List MemPlace} (h:DataW.trod enc P W 0 (λ_=>Y8) Y8 fuel t [c]=Y3 x) (hw:(x.1.weights P t).all (·<=reachBytes)=Y8):
  ∃(sl:Sl) (os:List α),c=Y7 sl/\RdS (hF W) sl k (os.flatMap cells)/\(∀o∈os,Q o)/\os.length=sl.len/\sl.len*P.bytesOf e<=reachBytes:=by
 rcases open_slice ht h with ⟨hcs,rfl⟩|⟨a,len,cap,m,n,D,Pl,hcs,_,hl,hm,hmm,rfl,hx⟩
 ·cases hcs;exact ⟨Zi,[],rfl,RdS.nil _ _,by simp,rfl,by simp [Zi]⟩
 ·cases hcs;simp only [if_true] at hmm;subst hmm;rw [hk] at hx;have hwD:∀i,i<len->((D i).weights P e).all (·<=reachBytes)=Y8:=λi hi=>by
   rw [XD] at hw ⊢;intro y hy;refine hw y ?_;simp only [DataW.weights,ht];refine Xo _ (Yq _ ?_);have gen:∀(l:List (DataW H)) (d:DataW H),d∈l->∀y∈d.weights P e,y∈DataW.weightsAll P e l:=by
    intro l;induction l with
    |nil=>intro d hd;cases hd
    |cons a l ih=>
     intro d hd y hy;simp only [DataW.weightsAll,W9];rcases W6.1 hd with rfl|hd
     ·exact .inl hy
     ·exact .inr (ih d hd y hy)
   exact gen _ (D i) (Xi.2 ⟨i,XN.2 hi,rfl⟩) y hy
  have hb:m*P.bytesOf e<=reachBytes:=by simp only [DataW.weights,ht,YL,XJ,δ,Xd,XI] at hw;rw [show len+(m - len)=m by omega] at hw;exact hw.1
  have ho:∀i,i<len->∃o:α,W.cells? 0 (a.add (i*k)) k=Y3 (cells o)/\Q o:=λi hi=>by obtain ⟨cs,h1,h2⟩:=hx i (by omega);obtain ⟨o,rfl,h3⟩:=elem h2 (hwD i hi);exact ⟨o,h1,h3⟩
  obtain ⟨O,hO⟩:=choose_lt ho;refine ⟨⟨Y3 a,len,m⟩,(List.range len).map O,rfl,⟨?_,hl,λhp=> ?_⟩,?_,by simp,X4 (Yb _ hl) hb⟩
  ·rw [jk hlen];simp
  ·simp only at hp;have h0:=(World.cells?_some (hO 0 (by omega)).1).2.2 0 hk0;obtain ⟨v0,hv0⟩:∃v,(cells (O 0))[0]? =Y3 v:=⟨_,N5 (by rw [hlen];exact hk0)⟩;have hs:=World.cell?_spot (v:=v0) (by rw [h0];exact hv0);obtain ⟨b,o,spot⟩:=a;simp [Zb] at hs;subst hs;refine ⟨b,o,rfl,λi hi=> ?_⟩;rw [jk hlen,Xd,XI] at hi;have hik:i / k<len:=Nat.div_lt_of_lt_mul (by rw [Nat.mul_comm];exact hi);have hr:i % k<k:=X8 _ hk0;have h1:=(World.cells?_some (hO (i / k) hik).1).2.2 (i % k) hr;have h2:=xu hlen (os:=(List.range len).map O) (i:=i / k) (j:=i % k) hr;have hdm:i / k*k+i % k=i:=by rw [Nat.mul_comm];exact Nat.div_add_mod i k
   rw [hdm] at h2;rw [<- N5,h2];simp only [Xj,XF hik,XT,Option.bind_some];rw [<- h1,aE,aE,Nat.add_assoc,hdm];rfl
  ·intro o ho;obtain ⟨i,hi,rfl⟩:=Xi.1 ho;exact (hO i (XN.1 hi)).2
end
section
variable {H:Type} {enc:TypeId×ξ->H} {W:World}
instance:Inhabited (Ln×Sl):=⟨⟨⟨0,[],0,0⟩,Zi⟩⟩
instance:Inhabited Ru:=⟨⟨0,0,0,0,0⟩⟩
theorem EW:prog.cellsOf 22=1:=by kernel_rfl
theorem uY:prog.cellsOf 91=4:=by kernel_rfl
theorem Bv:prog.cellsOf 131=5:=by kernel_rfl
theorem Jk:prog.cellsOf 26=5:=by kernel_rfl
theorem Jl:prog.cellsOf 23=1:=by kernel_rfl
theorem Jm:prog.cellsOf 24=1:=by kernel_rfl
theorem fF {z:Int} (h:(Lit.int .u8 z).wf=Y8):∃n:Nat,z=n/\n<256:=by obtain ⟨h1,h2⟩:=OY h;exact ⟨z.toNat,by omega,by omega⟩
theorem qC {fuel:Nat} {c:ξ} {x:DataW H×List MemPlace} (h:DataW.trod enc prog W 0 (λ_=>Y8) Y8 fuel 22 [c]=Y3 x) (hw:(x.1.weights prog 22).all (·<=reachBytes)=Y8):
  ∃(sl:Sl) (ns:Δ),c=Y7 sl/\RdS (hF W) sl 1 (ns.map vB)/\(∀n∈ns,n<256)/\ns.length<=9000000000000000:=by
 obtain ⟨sl,zs,rfl,hr,hz,hb,_⟩:=Hl underlying22 underlying5 se h hw;have e:(zs.map Zd).map vB=zs.map (Value.int .u8):=by rw [List.map_map];refine Yx λz hz'=> ?_;obtain ⟨n,rfl,_⟩:=fF (hz z hz');simp only [Function.comp,N4]
 refine ⟨sl,zs.map Zd,rfl,by rw [e];exact hr,λn hn=> ?_,by rw [Xd];exact Ka hr hb⟩;obtain ⟨z,hz',rfl⟩:=Xi.1 hn;obtain ⟨n,rfl,hn'⟩:=fF (hz z hz');rw [N4];exact hn'
theorem tI {fuel:Nat} {cs:Ξ} {x:DataW H×List MemPlace} (h:DataW.trod enc prog W 0 (λ_=>Y8) Y8 fuel 91 cs=Y3 x) (hw:(x.1.weights prog 91).all (·<=reachBytes)=Y8):
  ∃o:Ln×Sl,cs=[vB o.1.left,o.2.v,vB o.1.cond,vB o.1.mark]/\(RdS (hF W) o.2 1 (o.1.right.map vB)/\o.1.left<256/\o.1.cond<256/\o.1.mark<256/\∀y∈o.1.right,y<256):=by
 obtain ⟨xs,n,_,rfl,hl,hxl,hf⟩:=DataW.trod_struct underlying91 h;rw [uY] at hl
 match cs,hl with
 |[c0,c1,c2,c3],_=>
 match xs,hxl with
 |[x0,x1,x2,x3],_=>
 have f0:=hf 0 _ rfl;have f1:=hf 1 _ rfl;have f2:=hf 2 _ rfl;have f3:=hf 3 _ rfl;simp only [List.getElem?_cons_zero,XB] at f0 f1 f2 f3;obtain ⟨z0,e0,_,w0⟩:=DataW.trod_int underlying5 f0;obtain ⟨z2,e2,_,w2⟩:=DataW.trod_int underlying5 f2;obtain ⟨z3,e3,_,w3⟩:=DataW.trod_int underlying5 f3;cases e0;cases e2;cases e3;have hw1:(x1.1.weights prog 22).all (·<=reachBytes)=Y8:=by rw [XD] at hw ⊢;intro y hy;refine hw y ?_;simp only [DataW.weights,underlying91];exact DataW.weights_mem_each (j:=1) rfl rfl y hy
 obtain ⟨sl,ns,rfl,hr,hn,_⟩:=qC f1 hw1;obtain ⟨n0,rfl,k0⟩:=fF w0;obtain ⟨n2,rfl,k2⟩:=fF w2;obtain ⟨n3,rfl,k3⟩:=fF w3;exact ⟨⟨⟨n0,ns,n2,n3⟩,sl⟩,rfl,hr,k0,k2,k3,hn⟩
theorem Dw {fuel:Nat} {cs:Ξ} {x:DataW H×List MemPlace} (h:DataW.trod enc prog W 0 (λ_=>Y8) Y8 fuel 131 cs=Y3 x) (_hw:(x.1.weights prog 131).all (·<=reachBytes)=Y8):
  ∃o:Ru,cs=[vB o.kind,vB o.a,vB o.b,vB o.c,vB o.cond]/\(o.kind<256/\o.a<256/\o.b<256/\o.c<256/\o.cond<256):=by
 obtain ⟨xs,n,_,rfl,hl,hxl,hf⟩:=DataW.trod_struct underlying131 h;rw [Bv] at hl
 match cs,hl with
 |[c0,c1,c2,c3,c4],_=>
 match xs,hxl with
 |[x0,x1,x2,x3,x4],_=>
 have f0:=hf 0 _ rfl;have f1:=hf 1 _ rfl;have f2:=hf 2 _ rfl;have f3:=hf 3 _ rfl;have f4:=hf 4 _ rfl;simp only [List.getElem?_cons_zero,XB] at f0 f1 f2 f3 f4;obtain ⟨z0,e0,_,w0⟩:=DataW.trod_int underlying5 f0;obtain ⟨z1,e1,_,w1⟩:=DataW.trod_int underlying5 f1;obtain ⟨z2,e2,_,w2⟩:=DataW.trod_int underlying5 f2;obtain ⟨z3,e3,_,w3⟩:=DataW.trod_int underlying5 f3;obtain ⟨z4,e4,_,w4⟩:=DataW.trod_int underlying5 f4;cases e0;cases e1;cases e2;cases e3;cases e4;obtain ⟨n0,rfl,k0⟩:=fF w0;obtain ⟨n1,rfl,k1⟩:=fF w1;obtain ⟨n2,rfl,k2⟩:=fF w2;obtain ⟨n3,rfl,k3⟩:=fF w3;obtain ⟨n4,rfl,k4⟩:=fF w4;exact ⟨⟨n0,n1,n2,n3,n4⟩,rfl,k0,k1,k2,k3,k4⟩
theorem oZ {α β:Type} [Mem β] {F:PH} {cells:α->Ξ} {f:α->β}:∀{os:List α},(∀o∈os,Mem.rep F (f o) (cells o).toArray)->cZ F (os.map f) (os.map λo=>(cells o).toArray)
 |[],_=> .nil
 |o::os,h=> .cons (h o (by simp)) (oZ λx hx=>h x (by simp [hx]))
theorem y7 {α:Type} (cells:α->Ξ) (os:List α):cat (os.map λo=>(cells o).toArray)=os.flatMap cells:=by unfold cat;rw [List.flatMap_map]
theorem EX {fuel:Nat} {cs:Γ} {x:DataW H×List MemPlace} (h:DataW.trod enc prog W 0 (λ_=>Y8) Y8 fuel 26 cs.toList=Y3 x) (hw:(x.1.weights prog 26).all (·<=reachBytes)=Y8):
  ∃r:Rw,zy (hF W) cs r:=by
 obtain ⟨xs,n,_,rfl,hl,hxl,hf⟩:=DataW.trod_struct underlying26 h;rw [Jk] at hl;obtain ⟨cs⟩:=cs
 match cs,hl with
 |[c0,c1,c2,c3,c4],_=>
 match xs,hxl with
 |[x0,x1,x2,x3,x4],_=>
 have f0:=hf 0 _ rfl;have f1:=hf 1 _ rfl;have f2:=hf 2 _ rfl;have f3:=hf 3 _ rfl;have f4:=hf 4 _ rfl;simp only [List.getElem?_cons_zero,XB] at f0 f1 f2 f3 f4;obtain ⟨z0,e0,_,w0⟩:=DataW.trod_int underlying5 f0;obtain ⟨z1,e1,_,w1⟩:=DataW.trod_int underlying5 f1;cases e0;cases e1;have hw2:(x2.1.weights prog 22).all (·<=reachBytes)=Y8:=by rw [XD] at hw ⊢;intro y hy;refine hw y ?_;simp only [DataW.weights,underlying26];exact DataW.weights_mem_each (j:=2) rfl rfl y hy
 have hw3:(x3.1.weights prog 23).all (·<=reachBytes)=Y8:=by rw [XD] at hw ⊢;intro y hy;refine hw y ?_;simp only [DataW.weights,underlying26];exact DataW.weights_mem_each (j:=3) rfl rfl y hy
 have hw4:(x4.1.weights prog 24).all (·<=reachBytes)=Y8:=by rw [XD] at hw ⊢;intro y hy;refine hw y ?_;simp only [DataW.weights,underlying26];exact DataW.weights_mem_each (j:=4) rfl rfl y hy
 obtain ⟨sf,ns,rfl,hr2,hn2,_⟩:=qC f2 hw2;obtain ⟨sl,ls,rfl,hr3,hq3,_,_⟩:=mW (k:=4) (cells:=λo:Ln×Sl=>[vB o.1.left,o.2.v,vB o.1.cond,vB o.1.mark]) underlying23 uY (by decide) (λ_=>rfl) tI f3 hw3;obtain ⟨sr,rs,rfl,hr4,hq4,_,_⟩:=mW (k:=5) (cells:=λo:Ru=>[vB o.kind,vB o.a,vB o.b,vB o.c,vB o.cond]) underlying24 Bv (by decide) (λ_=>rfl) Dw f4 hw4;obtain ⟨n0,rfl,k0⟩:=fF w0;obtain ⟨n1,rfl,k1⟩:=fF w1;refine ⟨⟨n0,n1,ns,ls.map Prod.fst,rs⟩,⟨sf,sl,sr,rfl,hr2,⟨_,oZ (f:=Prod.fst) (cells:=λo:Ln×Sl=>[vB o.1.left,o.2.v,vB o.1.cond,vB o.1.mark]) λo ho=> ?_,by rw [y7];exact hr3⟩,⟨_,?_,by rw [y7 (λo:Ru=>[vB o.kind,vB o.a,vB o.b,vB o.c,vB o.cond])];exact hr4⟩⟩,k0,k1⟩
 ·obtain ⟨h1,h2⟩:=hq3 o ho;exact ⟨o.2,rfl,h1,h2⟩
 ·have:=oZ (F:=hF W) (f:=λo:Ru=>o) (cells:=λo:Ru=>[vB o.kind,vB o.a,vB o.b,vB o.c,vB o.cond]) (os:=rs) λo ho=>⟨rfl,hq4 o ho⟩;rw [List.map_id'] at this;exact this
end
set_option maxRecDepth 100000
section
variable {H:Type} {enc:TypeId×ξ->H} {W:World}
theorem y8 {fuel:Nat} {c:ξ} {x:DataW H×List MemPlace} (h:DataW.trod enc prog W 0 (λ_=>Y8) Y8 fuel 23 [c]=Y3 x) (hw:(x.1.weights prog 23).all (·<=reachBytes)=Y8):
  ∃(sl:Sl) (ls:List Ln),c=Y7 sl/\RL (hF W) sl ls:=by
 obtain ⟨sl,ls,rfl,hr3,hq3,_,_⟩:=mW (k:=4) (cells:=λo:Ln×Sl=>[vB o.1.left,o.2.v,vB o.1.cond,vB o.1.mark]) underlying23 uY (by decide) (λ_=>rfl) tI h hw;refine ⟨sl,ls.map Prod.fst,rfl,_,oZ (f:=Prod.fst) (cells:=λo:Ln×Sl=>[vB o.1.left,o.2.v,vB o.1.cond,vB o.1.mark]) λo ho=> ?_,by rw [y7];exact hr3⟩;obtain ⟨h1,h2⟩:=hq3 o ho;exact ⟨o.2,rfl,h1,h2⟩
end
section
theorem qD {k:Nat}:∀{t:Tr},eH k t->∀{c d:Cf},(∀i,i<k->c i=d i)->t.ev c=t.ev d
 |Y0 _,_,_,_,_=>rfl
 |Y1 v l h,⟨h1,h2,h3⟩,c,d,hc=>by simp only [Tr.ev];rw [hc v h1,qD h2 hc,qD h3 hc]
def y9 (c:Cf):Nat->Nat
 |0=>0
 |k+1=>y9 c k+if c k=Y8 then 2 ^ k else 0
theorem uZ (c:Cf):∀k,y9 c k<2 ^ k
 |0=>Nat.one_pos
 |k+1=>by have:=uZ c k;rw [Nat.pow_succ,y9];split<;>omega
theorem qE (c:Cf):∀{k i:Nat},i<k->(y9 c k).testBit i=c i
 |0,_,h=>by omega
 |k+1,i,h=>by
  have hlt:=uZ c k;rw [y9];by_cases e:i=k
  ·subst e;by_cases hc:c i=Y8
   ·rw [Χ hc,Nat.add_comm,Nat.testBit_two_pow_add_eq,Nat.testBit_lt_two_pow hlt,hc];rfl
   ·rw [Υ hc,Yy,Nat.testBit_lt_two_pow hlt];simpa using (XZ.2 hc).symm
  ·have hi:i<k:=by omega
   by_cases hc:c k=Y8
   ·rw [Χ hc,Nat.add_comm,Nat.testBit_two_pow_add_gt hi];exact qE c hi
   ·rw [Υ hc,Yy];exact qE c hi
theorem tJ {α:Type} {p q:α->Bool}:∀{l:List α},(∀x∈l,p x=Y8->q x=Y8)->(l.filter p).length<=(l.filter q).length/\∀x∈l,q x=Y8->p x=Y6->(l.filter p).length<(l.filter q).length
 |[],_=>⟨W8 _,λ_ h=>by cases h⟩
 |y::l,h=>by
  obtain ⟨h1,h2⟩:=tJ (l:=l) λx hx=>h x (Xo _ hx);have hy:=h y (by simp);have e1:((y::l).filter p).length=(l.filter p).length+if p y=Y8 then 1 else 0:=by rw [List.filter_cons];split<;>simp
  have e2:((y::l).filter q).length=(l.filter q).length+if q y=Y8 then 1 else 0:=by rw [List.filter_cons];split<;>simp
  rw [e1,e2];refine ⟨?_,λx hx hq hp=> ?_⟩
  ·by_cases hpy:p y=Y8
   ·rw [Χ hpy,Χ (hy hpy)];omega
   ·rw [Υ hpy];omega
  ·rcases W6.1 hx with rfl|hx
   ·rw [Χ hq,Υ (by rw [hp];exact Ym)];omega
   ·have:=h2 x hx hq hp;by_cases hpy:p y=Y8
    ·rw [Χ hpy,Χ (hy hpy)];omega
    ·rw [Υ hpy];omega
def wt (k:Nat) (t:Tr):Nat:=((List.range (2 ^ k)).filter λm=>t.ev λi=>m.testBit i).length
theorem Ly (k:Nat) (t:Tr):wt k t<=2 ^ k:=by unfold wt;exact X4 (List.length_filter_le _ _) (by rw [XI];exact W8 _)
theorem PZ {k:Nat} {a b:Tr} (ha:Sx k a) (hb:Sx k b) (hle:∀c,a.ev c=Y8->b.ev c=Y8):wt k a<=wt k b/\(a≠b->wt k a<wt k b):=by
 obtain ⟨h1,h2⟩:=tJ (p:=λm:Nat=>a.ev λi=>m.testBit i) (q:=λm=>b.ev λi=>m.testBit i) (l:=List.range (2 ^ k)) λx _=>hle _;refine ⟨h1,λhne=> ?_⟩;have hex:¬∀c,a.ev c=b.ev c:=λh=>hne (eQ ha.1 hb.1 h);have ⟨c,hc⟩:∃c,a.ev c≠b.ev c:=Classical.not_forall.1 hex;have e:∀{t:Tr},Sx k t->t.ev (λi=>(y9 c k).testBit i)=t.ev c:=λht=>qD ht.2 λi hi=>qE c hi;have hac:a.ev c=Y6:=by
  cases h:a.ev c with
  |false=>rfl
  |true=>exact absurd (h.trans (hle c h).symm) hc
 refine h2 (y9 c k) (XN.2 (uZ c k)) ?_ ?_
 ·show b.ev _=Y8;rw [e hb];cases h:b.ev c with
  |true=>rfl
  |false=>exact absurd (hac.trans h.symm) hc
 ·show a.ev _=Y6;rw [e ha,hac]
section
variable {κ:Type} {k:Nat}
def Sxs (k:Nat) (S:κ->Tr):Prop:=∀n,Sx k (S n)
def Lt' (S S':κ->Tr):Prop:=∀n c,(S n).ev c=Y8->(S' n).ev c=Y8
theorem Lt'.refl (S:κ->Tr):Lt' S S:=λ_ _ h=>h
theorem Lt'.trans {S T U:κ->Tr} (h:Lt' S T) (h':Lt' T U):Lt' S U:=λn c hc=>h' n c (h n c hc)
theorem Lt'.antisymm {S T:κ->Tr} (hS:Sxs k S) (hT:Sxs k T) (h:Lt' S T) (h':Lt' T S):S=T:=by
 funext n;refine eQ (hS n).1 (hT n).1 λc=> ?_;cases e:(S n).ev c with
 |true=>exact (h n c e).symm
 |false=>
  cases e':(T n).ev c with
  |false=>rfl
  |true=>rw [h' n c e'] at e;cases e
def mu (k:Nat) (keys:List κ) (S:κ->Tr):Nat:=(keys.map λn=>2 ^ k - wt k (S n)).sum
theorem xv {S T:κ->Tr} (hS:Sxs k S) (hT:Sxs k T) (h:Lt' S T):∀keys:List κ,mu k keys T<=mu k keys S/\∀n∈keys,S n≠T n->mu k keys T<mu k keys S
 |[]=>⟨W8 _,λ_ h=>by cases h⟩
 |x::l=>by
  obtain ⟨h1,h2⟩:=xv hS hT h l;obtain ⟨w1,w2⟩:=PZ (hS x) (hT x) (h x);have a1:=Ly k (S x);have a2:=Ly k (T x);have e:∀S:κ->Tr,mu k (x::l) S=(2 ^ k - wt k (S x))+mu k l S:=λS=>by unfold mu;rw [Xw,List.sum_cons]
  rw [e,e];refine ⟨by omega,λn hn hne=> ?_⟩;rcases W6.1 hn with rfl|hn
  ·have:=w2 hne;omega
  ·have:=h2 n hn hne;omega
variable [DecidableEq κ]
def dx (S:κ->Tr) (n:κ) (t:Tr):κ->Tr:=λi=>if i=n then t else S i
theorem mX (S:κ->Tr) (n:κ):dx S n (S n)=S:=by
 funext i;unfold dx;split
 ·rename_i e;rw [e]
 ·rfl
theorem Sxs.upd {S:κ->Tr} (h:Sxs k S) {n:κ} {t:Tr} (ht:Sx k t):Sxs k (dx S n t):=λi=>by
 unfold dx;split
 ·exact ht
 ·exact h i
def bo (S:κ->Tr) (n:κ) (d:Tr):κ->Tr:=dx S n (ap2 oOr (S n) d)
theorem dZ {S:κ->Tr} (h:Sxs k S) {n:κ} {d:Tr} (hd:Sx k d) (i:κ) (c:Cf):(bo S n d i).ev c=((S i).ev c || (decide (i=n) && d.ev c)):=by
 unfold bo dx;by_cases e:i=n
 ·rw [Χ e,ζ e,e,(bq (h n).1 hd.1).2];rfl
 ·rw [Υ e,ι e];simp
theorem cO {S:κ->Tr} (h:Sxs k S) {n:κ} {d:Tr} (hd:Sx k d):Sxs k (bo S n d):=h.upd ((h n).ap2 hd)
theorem d6 {S:κ->Tr} (h:Sxs k S) {n:κ} {d:Tr} (hd:Sx k d):Lt' S (bo S n d):=λi c hc=>by rw [dZ h hd,hc];rfl
end
inductive Der (l:List Pr) (P:Nat->Tr) (st:Bool) (c:Cf):Int->Prop
 |mk (i:Nat) (x:Pr):l[i]? =Y3 x->(P i).ev c=Y8->(∀s∈x.right,s.t=Y8->st=Y6)->(∀s∈x.right,s.t=Y6->Der l P st c s.i)->Der l P st c x.left
section
variable {k:Nat} {l:List Pr} {P:Nat->Tr} {st:Bool}
def dG (S:Int->Tr):Tr->List Sy->Tr
 |d,[]=>d
 |d,s::r=>dG S (if s.t=Y8 then d else ap2 aY d (S s.i)) r
theorem bz {S:Int->Tr} (hS:Sxs k S):∀(r:List Sy) {d:Tr},Sx k d->Sx k (dG S d r)/\∀c,(dG S d r).ev c=(d.ev c && r.all λs=>s.t || (S s.i).ev c)
 |[],d,hd=>⟨hd,λc=>by simp [dG]⟩
 |s::r,d,hd=>by
  unfold dG;by_cases h:s.t=Y8
  ·rw [Χ h];obtain ⟨h1,h2⟩:=bz hS r hd;exact ⟨h1,λc=>by rw [h2,YL,h];simp⟩
  ·rw [Υ h];obtain ⟨h1,h2⟩:=bz hS r (hd.ap2 (o:=aY) (hS s.i));refine ⟨h1,λc=> ?_⟩;rw [h2,YL,(bq hd.1 (hS s.i).1).2,XZ.2 h,YM,Bool.and_assoc]
def gr (st:Bool) (x:Pr):Bool:=st && x.right.any (·.t)
def jb (st:Bool) (P:Nat->Tr):Nat->List Pr->(Int->Tr)->Int->Tr
 |_,[],S=>S
 |i,x::l,S=>jb st P (i+1) l (if gr st x=Y8 then S else bo S x.left (dG S (P i) x.right))
theorem gu {S:Int->Tr} (hS:Sxs k S) {i:Nat} (hP:Sx k (P i)) (x:Pr):
  Sxs k (if gr st x=Y8 then S else bo S x.left (dG S (P i) x.right))/\Lt' S (if gr st x=Y8 then S else bo S x.left (dG S (P i) x.right)):=by
 obtain ⟨h1,_⟩:=bz hS x.right hP;split
 ·exact ⟨hS,Lt'.refl S⟩
 ·exact ⟨cO hS h1,d6 hS h1⟩
theorem kI (hP:∀i,Sx k (P i)):∀(l:List Pr) (i:Nat) {S:Int->Tr},Sxs k S->Sxs k (jb st P i l S)/\Lt' S (jb st P i l S)/\∀n,jb st P i l S n≠S n->∃x∈l,x.left=n
 |[],i,S,hS=>⟨hS,Lt'.refl S,λn h=>absurd rfl h⟩
 |x::l,i,S,hS=>by
  obtain ⟨a1,a2⟩:=gu (st:=st) hS (hP i) x;unfold jb;obtain ⟨b1,b2,b3⟩:=kI hP l (i+1) a1;refine ⟨b1,a2.trans b2,λn hn=> ?_⟩;by_cases e:x.left=n
  ·exact ⟨x,by simp,e⟩
  ·have:(if gr st x=Y8 then S else bo S x.left (dG S (P i) x.right)) n=S n:=by
    split
    ·rfl
    ·unfold bo dx;rw [Υ (Ne.symm e)]
   obtain ⟨y,hy,hl⟩:=b3 n (by rw [this];exact hn);exact ⟨y,Xo _ hy,hl⟩
theorem nY (hP:∀i,Sx k (P i)):∀(l:List Pr) (i:Nat) {S:Int->Tr},Sxs k S->jb st P i l S=S->
  ∀(j:Nat) (x:Pr),l[j]? =Y3 x->gr st x=Y6->∀c,(dG S (P (i+j)) x.right).ev c=Y8->(S x.left).ev c=Y8
 |[],_,_,_,_,j,_,h,_=>by simp at h
 |y::l,i,S,hS,he,j,x,hj,hs=>by
  obtain ⟨a1,a2⟩:=gu (st:=st) hS (hP i) y;unfold jb at he;obtain ⟨b1,b2,_⟩:=kI (st:=st) hP l (i+1) a1;have e1:(if gr st y=Y8 then S else bo S y.left (dG S (P i) y.right))=S:=by refine Lt'.antisymm a1 hS ?_ a2;rw [he] at b2;exact b2
  rw [e1] at he;cases j with
  |zero=>simp at hj;subst hj;rw [hs,Υ Ym] at e1;intro c hc;have:=dZ hS (n:=y.left) (bz hS y.right (hP i)).1 y.left c;rw [e1,ζ rfl,Yp] at this;rw [this];rw [Yy] at hc;rw [hc,Bool.or_true]
  |succ j=>intro c hc;refine nY hP l (i+1) hS he j x (by simpa using hj) hs c ?_;rw [show i+1+j=i+(j+1) by omega];exact hc
def Snd (l:List Pr) (P:Nat->Tr) (st:Bool) (S:Int->Tr):Prop:=∀n c,(S n).ev c=Y8->Der l P st c n
theorem xw (hP:∀i,Sx k (P i)):∀(m:List Pr) (i:Nat) {S:Int->Tr},(∀j x,m[j]? =Y3 x->l[i+j]? =Y3 x)->Sxs k S->Snd l P st S->Snd l P st (jb st P i m S)
 |[],_,_,_,_,h=>h
 |x::m,i,S,hl,hS,h=>by
  obtain ⟨a1,a2⟩:=gu (st:=st) hS (hP i) x;unfold jb;refine xw hP m (i+1) (λj y hj=>by rw [show i+1+j=i+(j+1) by omega];exact hl (j+1) y (by simpa using hj)) a1 ?_;by_cases hsk:gr st x=Y8
  ·rw [Χ hsk];exact h
  ·rw [Υ hsk];intro n c hc;obtain ⟨f1,f2⟩:=bz hS x.right (hP i);rw [dZ hS f1] at hc;rcases X9.1 hc with hc|hc
   ·exact h n c hc
   ·obtain ⟨e,hc⟩:=Xq.1 hc;have e:=ε e;rw [f2] at hc;obtain ⟨h1,h2⟩:=Xq.1 hc;rw [XD] at h2;rw [e];refine .mk i x (by have:=hl 0 x rfl;rwa [Yy] at this) h1 (λs hs ht=> ?_) λs hs ht=> ?_
    ·cases hst:st with
     |false=>rfl
     |true=>refine absurd ?_ hsk;unfold gr;rw [hst,Yp,X5];exact ⟨s,hs,ht⟩
    ·have:=h2 s hs;rw [ht,YM] at this;exact h _ _ this
theorem za {S:Int->Tr} (hS:Sxs k S) (hP:∀i,Sx k (P i)) (hc:∀(j:Nat) (x:Pr),l[j]? =Y3 x->gr st x=Y6->∀c,(dG S (P j) x.right).ev c=Y8->(S x.left).ev c=Y8) {c:Cf} {n:Int} (h:Der l P st c n):(S n).ev c=Y8:=by
 induction h with
 |mk i x hi hp ht _ ih=>
  refine hc i x hi ?_ c ?_
  ·unfold gr;cases hst:st with
   |false=>rfl
   |true=>rw [Yp,<- YB,X5];rintro ⟨s,hs,h⟩;have:=ht s hs h;rw [hst] at this;cases this
  ·rw [(bz hS x.right (hP i)).2,hp,Yp,XD];intro s hs;cases h:s.t with
   |true=>rfl
   |false=>rw [YM];exact ih s hs h
structure bX (k:Nat) (l:List Pr) (P:Nat->Tr) (st:Bool) (S:Int->Tr):Prop where
 sx:Sxs k S
 iff:∀n c,(S n).ev c=Y8↔Der l P st c n
theorem EY {S:Int->Tr} (hP:∀i,Sx k (P i)) (hS:Sxs k S) (h:Snd l P st S) (he:jb st P 0 l S=S):bX k l P st S:=
 ⟨hS,λn c=>⟨h n c,za hS hP λj x hj hs c hc=>nY hP l 0 hS he j x hj hs c (by rw [Xm];exact hc)⟩⟩
end
def Stp (l:List Pr) (P:Nat->Tr) (c:Cf) (a b:Int):Prop:=∃(i j:Nat) (x:Pr) (s:Sy),l[i]? =Y3 x/\x.right[j]? =Y3 s/\s.t=Y6/\x.left=a/\s.i=b/\(P i).ev c=Y8/\
 ∀(m:Nat) (y:Sy),m≠j->x.right[m]? =Y3 y->y.t=Y6/\Der l P Y8 c y.i
inductive Tg {α:Type} (R:α->α->Prop) (a:α):α->Prop
 |one {b:α}:R a b->Tg R a b
 |snoc {b d:α}:Tg R a b->R b d->Tg R a d
section
variable {α:Type} {R:α->α->Prop}
theorem Tg.head {a b:α} (h:Tg R a b):∃d,R a d:=by
 induction h with
 |one h1=>exact ⟨_,h1⟩
 |snoc _ _ ih=>exact ih
end
inductive Rch (l:List Pr) (P:Nat->Tr) (fam:Tr) (start:Int) (c:Cf):Int->Prop
 |start:fam.ev c=Y8->Rch l P fam start c start
 |step (i:Nat) (x:Pr) (s:Sy):l[i]? =Y3 x->(P i).ev c=Y8->Rch l P fam start c x.left->(∀y∈x.right,y.t=Y6->Der l P Y6 c y.i)->s∈x.right->s.t=Y6->Rch l P fam start c s.i
def Use (l:List Pr) (P:Nat->Tr) (fam:Tr) (start:Int) (c:Cf) (i:Nat):Prop:=∃x,l[i]? =Y3 x/\(P i).ev c=Y8/\Rch l P fam start c x.left/\∀y∈x.right,y.t=Y6->Der l P Y6 c y.i
section
variable {k:Nat} {l:List Pr} {P:Nat->Tr} {fam:Tr} {start:Int} {D:Int->Tr}
def eE (d:Tr):List Sy->(Int->Tr)->Int->Tr
 |[],S=>S
 |s::r,S=>eE d r (if s.t=Y8 then S else bo S s.i d)
theorem eF {d:Tr} (hd:Sx k d):∀(r:List Sy) {S:Int->Tr},Sxs k S->Sxs k (eE d r S)/\∀n c,(eE d r S n).ev c=Y8↔(S n).ev c=Y8\/(d.ev c=Y8/\∃s∈r,s.t=Y6/\s.i=n)
 |[],S,hS=>⟨hS,λn c=>⟨.inl,λh=>h.resolve_right λ⟨_,s,hs,_⟩=>by cases hs⟩⟩
 |s::r,S,hS=>by
  unfold eE;by_cases ht:s.t=Y8
  ·rw [Χ ht];obtain ⟨h1,h2⟩:=eF hd r hS;refine ⟨h1,λn c=>(h2 n c).trans ⟨λh=>h.imp id λ⟨a,s',b,e⟩=>⟨a,s',Xo _ b,e⟩,λh=>h.imp id λ⟨a,s',b,e,e'⟩=>⟨a,s',?_,e,e'⟩⟩⟩;rcases W6.1 b with rfl|b
   ·rw [ht] at e;cases e
   ·exact b
  ·rw [Υ ht];have ht:s.t=Y6:=XZ.2 ht;obtain ⟨h1,h2⟩:=eF hd r (cO hS hd (n:=s.i));refine ⟨h1,λn c=>(h2 n c).trans ?_⟩;rw [dZ hS hd,X9,Xq,δ];constructor
   ·rintro ((h|⟨h,h'⟩)|⟨h,s',a,b,e⟩)
    ·exact .inl h
    ·exact .inr ⟨h',s,by simp,ht,h.symm⟩
    ·exact .inr ⟨h,s',Xo _ a,b,e⟩
   ·rintro (h|⟨h,s',a,b,e⟩)
    ·exact .inl (.inl h)
    ·rcases W6.1 a with rfl|a
     ·exact .inl (.inr ⟨e.symm,h⟩)
     ·exact .inr ⟨h,s',a,b,e⟩
def fN (P:Nat->Tr) (D S:Int->Tr) (i:Nat) (x:Pr):Tr:=dG D (ap2 aY (S x.left) (P i)) x.right
theorem ee (hP:∀i,Sx k (P i)) (hD:Sxs k D) {S:Int->Tr} (hS:Sxs k S) (i:Nat) (x:Pr):
  Sx k (fN P D S i x)/\∀c,(fN P D S i x).ev c=Y8↔(S x.left).ev c=Y8/\(P i).ev c=Y8/\∀s∈x.right,s.t=Y6->(D s.i).ev c=Y8:=by
 obtain ⟨h1,h2⟩:=bz hD x.right ((hS x.left).ap2 (o:=aY) (hP i));refine ⟨h1,λc=> ?_⟩;unfold fN;rw [h2,(bq (hS x.left).1 (hP i).1).2,Xq,Xq,XD,and_assoc];refine and_congr_right λ_=>and_congr_right λ_=>forall_congr' λs=>forall_congr' λ_=> ?_;cases s.t<;>simp
def f7 (P:Nat->Tr) (D:Int->Tr):Nat->List Pr->(Int->Tr)->Int->Tr
 |_,[],S=>S
 |i,x::l,S=>f7 P D (i+1) l (eE (fN P D S i x) x.right S)
theorem ip (hP:∀i,Sx k (P i)) (hD:Sxs k D):∀(l:List Pr) (i:Nat) {S:Int->Tr},Sxs k S->Sxs k (f7 P D i l S)/\Lt' S (f7 P D i l S)
 |[],_,S,hS=>⟨hS,Lt'.refl S⟩
 |x::l,i,S,hS=>by obtain ⟨a1,a2⟩:=eF (ee hP hD hS i x).1 x.right hS;unfold f7;obtain ⟨b1,b2⟩:=ip hP hD l (i+1) a1;exact ⟨b1,Lt'.trans (λn c h=>(a2 n c).2 (.inl h)) b2⟩
theorem nZ (hP:∀i,Sx k (P i)) (hD:Sxs k D):∀(l:List Pr) (i:Nat) {S:Int->Tr},Sxs k S->f7 P D i l S=S->
  ∀(j:Nat) (x:Pr),l[j]? =Y3 x->∀s∈x.right,s.t=Y6->∀c,(fN P D S (i+j) x).ev c=Y8->(S s.i).ev c=Y8
 |[],_,_,_,_,j,_,h=>by simp at h
 |y::l,i,S,hS,he,j,x,hj=>by
  obtain ⟨a1,a2⟩:=eF (ee hP hD hS i y).1 y.right hS;unfold f7 at he;obtain ⟨b1,b2⟩:=ip hP hD l (i+1) a1;have e1:eE (fN P D S i y) y.right S=S:=by refine Lt'.antisymm a1 hS ?_ λn c h=>(a2 n c).2 (.inl h);rw [he] at b2;exact b2
  rw [e1] at he;cases j with
  |zero=>simp at hj;subst hj;intro s hs ht c hc;rw [Yy] at hc;rw [<- e1];exact (a2 s.i c).2 (.inr ⟨hc,s,hs,ht,rfl⟩)
  |succ j=>intro s hs ht c hc;refine nZ hP hD l (i+1) hS he j x (by simpa using hj) s hs ht c ?_;rw [show i+1+j=i+(j+1) by omega];exact hc
theorem xx (hP:∀i,Sx k (P i)) (hD:bX k l P Y6 D):∀(m:List Pr) (i:Nat) {S:Int->Tr},(∀j x,m[j]? =Y3 x->l[i+j]? =Y3 x)->Sxs k S->(∀n c,(S n).ev c=Y8->Rch l P fam start c n)->
  ∀n c,(f7 P D i m S n).ev c=Y8->Rch l P fam start c n
 |[],_,_,_,_,h=>h
 |x::m,i,S,hl,hS,h=>by
  obtain ⟨u1,u2⟩:=ee hP hD.sx hS i x;obtain ⟨a1,a2⟩:=eF u1 x.right hS;unfold f7;refine xx hP hD m (i+1) (λj y hj=>by rw [show i+1+j=i+(j+1) by omega];exact hl (j+1) y (by simpa using hj)) a1 λn c hc=> ?_;rcases (a2 n c).1 hc with hc|⟨hc2,s,hs,ht,rfl⟩
  ·exact h n c hc
  ·obtain ⟨v1,v2,v3⟩:=(u2 c).1 hc2;exact .step i x s (by have:=hl 0 x rfl;rwa [Yy] at this) v2 (h _ c v1) (λy hy hyt=>(hD.iff _ _).1 (v3 y hy hyt)) hs ht
structure Bw (k:Nat) (l:List Pr) (P:Nat->Tr) (fam:Tr) (start:Int) (S:Int->Tr):Prop where
 sx:Sxs k S
 iff:∀n c,(S n).ev c=Y8↔Rch l P fam start c n
theorem EZ {S:Int->Tr} (hP:∀i,Sx k (P i)) (hD:bX k l P Y6 D) (hS:Sxs k S) (h:∀n c,(S n).ev c=Y8->Rch l P fam start c n) (h0:∀c,fam.ev c=Y8->(S start).ev c=Y8) (he:f7 P D 0 l S=S):Bw k l P fam start S:=by
 refine ⟨hS,λn c=>⟨h n c,λhr=> ?_⟩⟩;induction hr with
 |start hf=>exact h0 c hf
 |step i x s hi hp _ hd hs ht ih=>refine nZ hP hD.sx l 0 hS he i x hi s hs ht c ?_;rw [Xm];exact ((ee hP hD.sx hS i x).2 c).2 ⟨ih,hp,λy hy hyt=>(hD.iff _ _).2 (hd y hy hyt)⟩
theorem Jn {S:Int->Tr} (hP:∀i,Sx k (P i)) (hD:bX k l P Y6 D) (h:Bw k l P fam start S) {i:Nat} {x:Pr} (hi:l[i]? =Y3 x) (c:Cf):(fN P D S i x).ev c=Y8↔Use l P fam start c i:=by
 rw [(ee hP hD.sx h.sx i x).2 c];constructor
 ·rintro ⟨h1,h2,h3⟩;exact ⟨x,hi,h2,(h.iff _ _).1 h1,λy hy hyt=>(hD.iff _ _).1 (h3 y hy hyt)⟩
 ·rintro ⟨y,hy,h2,h1,h3⟩;rw [hi] at hy;cases hy;exact ⟨(h.iff _ _).2 h1,h2,λy hy hyt=>(hD.iff _ _).2 (h3 y hy hyt)⟩
end
def Bef (l:List Pr) (P:Nat->Tr) (c:Cf) (r:List Sy) (j:Nat):Prop:=∀(m:Nat) (y:Sy),m<j->r[m]? =Y3 y->y.t=Y6/\Der l P Y8 c y.i
inductive Fst (l:List Pr) (P:Nat->Tr) (c:Cf):Int->Int->Prop
 |tok (i j:Nat) (x:Pr) (s:Sy):l[i]? =Y3 x->(P i).ev c=Y8->(∀y∈x.right,y.t=Y6->Der l P Y6 c y.i)->x.right[j]? =Y3 s->Bef l P c x.right j->s.t=Y8->Fst l P c x.left s.i
 |non (i j:Nat) (x:Pr) (s:Sy) (t:Int):l[i]? =Y3 x->(P i).ev c=Y8->(∀y∈x.right,y.t=Y6->Der l P Y6 c y.i)->x.right[j]? =Y3 s->Bef l P c x.right j->s.t=Y6->Fst l P c s.i t->Fst l P c x.left t
section
variable {k:Nat} {l:List Pr} {P:Nat->Tr} {N D:Int->Tr}
def eK (d:Tr) (a b:Int):Φ->(Int×Int->Tr)->Int×Int->Tr
 |[],S=>S
 |t::ts,S=>eK d a b ts (bo S (b,t) (ap2 aY d (S (a,t))))
theorem gx {d:Tr} (hd:Sx k d) (a b:Int):∀(ts:Φ) {S:Int×Int->Tr},Sxs k S->Sxs k (eK d a b ts S)/\Lt' S (eK d a b ts S)/\
  (∀n c,(eK d a b ts S n).ev c=Y8->(S n).ev c=Y8\/(d.ev c=Y8/\n.1=b/\∃t∈ts,n.2=t/\(S (a,t)).ev c=Y8))/\∀t∈ts,∀c,d.ev c=Y8->(S (a,t)).ev c=Y8->(eK d a b ts S (b,t)).ev c=Y8
 |[],S,hS=>⟨hS,Lt'.refl S,λn c h=> .inl h,λt h=>by cases h⟩
 |t::ts,S,hS=>by
  have hx:Sx k (ap2 aY d (S (a,t))):=hd.ap2 (o:=aY) (hS _);have ex:∀c,(ap2 aY d (S (a,t))).ev c=(d.ev c && (S (a,t)).ev c):=(bq hd.1 (hS _).1).2;unfold eK;obtain ⟨h1,h2,h3,h4⟩:=gx hd a b ts (cO hS hx (n:=(b,t)));have key:∀n c,(bo S (b,t) (ap2 aY d (S (a,t))) n).ev c=Y8↔(S n).ev c=Y8\/(n=(b,t)/\d.ev c=Y8/\(S (a,t)).ev c=Y8):=λn c=>by rw [dZ hS hx,ex,X9,Xq,Xq,δ]
  refine ⟨h1,(d6 hS hx).trans h2,λn c hc=> ?_,λu hu c hdc hac=> ?_⟩
  ·rcases h3 n c hc with hc|⟨g1,g2,u,g3,g4,g5⟩
   ·rcases (key n c).1 hc with hc|⟨e,g1,g2⟩
    ·exact .inl hc
    ·exact .inr ⟨g1,by rw [e],t,by simp,by rw [e],g2⟩
   ·rcases (key (a,u) c).1 g5 with g5|⟨e,_,g6⟩
    ·exact .inr ⟨g1,g2,u,Xo _ g3,g4,g5⟩
    ·have e2:u=t:=congrArg Prod.snd e;exact .inr ⟨g1,g2,t,by simp,by rw [g4,e2],g6⟩
  ·rcases W6.1 hu with rfl|hu
   ·exact h2 _ c ((key (b,u) c).2 (.inr ⟨rfl,hdc,hac⟩))
   ·exact h4 u hu c hdc ((key (a,u) c).2 (.inl hac))
def fO (N:Int->Tr) (ts:Φ) (b:Int):Tr->List Sy->(Int×Int->Tr)->Int×Int->Tr
 |_,[],S=>S
 |d,s::r,S=>if s.t=Y8 then bo S (b,s.i) d else fO N ts b (ap2 aY d (N s.i)) r (eK d s.i b ts S)
theorem f8 (hN:Sxs k N) (ts:Φ) (b:Int):∀(r:List Sy) {d:Tr} {S:Int×Int->Tr},Sx k d->Sxs k S->Sxs k (fO N ts b d r S)/\Lt' S (fO N ts b d r S)
 |[],_,S,_,hS=>⟨hS,Lt'.refl S⟩
 |s::r,d,S,hd,hS=>by
  unfold fO;split
  ·exact ⟨cO hS hd,d6 hS hd⟩
  ·obtain ⟨h1,h2,_⟩:=gx hd s.i b ts hS;obtain ⟨g1,g2⟩:=f8 hN ts b r (hd.ap2 (o:=aY) (hN s.i)) h1;exact ⟨g1,h2.trans g2⟩
theorem oa (hN:Sxs k N) (ts:Φ) (b:Int):∀(r:List Sy) {d:Tr} {S:Int×Int->Tr},Sx k d->Sxs k S->fO N ts b d r S=S->
  ∀(j:Nat) (s:Sy) (c:Cf),r[j]? =Y3 s->d.ev c=Y8->(∀(m:Nat) (y:Sy),m<j->r[m]? =Y3 y->y.t=Y6/\(N y.i).ev c=Y8)->
   (s.t=Y8->(S (b,s.i)).ev c=Y8)/\(s.t=Y6->∀t∈ts,(S (s.i,t)).ev c=Y8->(S (b,t)).ev c=Y8)
 |[],_,_,_,_,_,j,_,_,h,_,_=>by simp at h
 |y::r,d,S,hd,hS,he,j,s,c,hj,hc,hb=>by
  unfold fO at he;by_cases hy:y.t=Y8
  ·rw [Χ hy] at he;cases j with
   |zero=>simp at hj;subst hj;refine ⟨λ_=> ?_,λh=>(by rw [hy] at h;cases h)⟩;have:=dZ hS hd (n:=(b,y.i)) (b,y.i) c;rw [he,ζ rfl,Yp,hc,Bool.or_true] at this;exact this
   |succ j=>have:=(hb 0 y (by omega) rfl).1;rw [hy] at this;cases this
  ·rw [Υ hy] at he;obtain ⟨h1,h2,h3,h4⟩:=gx hd y.i b ts hS;obtain ⟨g1,g2⟩:=f8 hN ts b r (hd.ap2 (o:=aY) (hN y.i)) h1;have e1:eK d y.i b ts S=S:=by refine Lt'.antisymm h1 hS ?_ h2;rw [he] at g2;exact g2
   rw [e1] at he h4;cases j with
   |zero=>simp at hj;subst hj;exact ⟨λh=>absurd h hy,λ_ t ht hs=>h4 t ht c hc hs⟩
   |succ j=>have h0:=(hb 0 y (by omega) rfl).2;refine oa hN ts b r (hd.ap2 (o:=aY) (hN y.i)) hS he j s c (by simpa using hj) ?_ λm z hm hz=>hb (m+1) z (by omega) (by simpa using hz);rw [(bq hd.1 (hN y.i).1).2,hc,h0];rfl
def iq (P:Nat->Tr) (N D:Int->Tr) (ts:Φ):Nat->List Pr->(Int×Int->Tr)->Int×Int->Tr
 |_,[],S=>S
 |i,x::l,S=>iq P N D ts (i+1) l (fO N ts x.left (dG D (P i) x.right) x.right S)
theorem kJ (hP:∀i,Sx k (P i)) (hN:Sxs k N) (hD:Sxs k D) (ts:Φ):∀(l:List Pr) (i:Nat) {S:Int×Int->Tr},Sxs k S->Sxs k (iq P N D ts i l S)/\Lt' S (iq P N D ts i l S)
 |[],_,S,hS=>⟨hS,Lt'.refl S⟩
 |x::l,i,S,hS=>by obtain ⟨a1,a2⟩:=f8 hN ts x.left x.right (bz hD x.right (hP i)).1 hS;unfold iq;obtain ⟨b1,b2⟩:=kJ hP hN hD ts l (i+1) a1;exact ⟨b1,a2.trans b2⟩
theorem oc (hP:∀i,Sx k (P i)) (hN:Sxs k N) (hD:Sxs k D) (ts:Φ):∀(l:List Pr) (i:Nat) {S:Int×Int->Tr},Sxs k S->iq P N D ts i l S=S->
  ∀(m:Nat) (x:Pr),l[m]? =Y3 x->fO N ts x.left (dG D (P (i+m)) x.right) x.right S=S
 |[],_,_,_,_,m,_,h=>by simp at h
 |y::l,i,S,hS,he,m,x,hm=>by
  obtain ⟨a1,a2⟩:=f8 hN ts y.left y.right (bz hD y.right (hP i)).1 hS;unfold iq at he;obtain ⟨b1,b2⟩:=kJ hP hN hD ts l (i+1) a1;have e1:fO N ts y.left (dG D (P i) y.right) y.right S=S:=by refine Lt'.antisymm a1 hS ?_ a2;rw [he] at b2;exact b2
  rw [e1] at he;cases m with
  |zero=>simp at hm;subst hm;rw [Yy];exact e1
  |succ m=>rw [show i+(m+1)=i+1+m by omega];exact oc hP hN hD ts l (i+1) hS he m x (by simpa using hm)
theorem xy (hN:bX k l P Y8 N) (ts:Φ) {i:Nat} {x:Pr} (hi:l[i]? =Y3 x):∀(r:List Sy) (j:Nat) {d:Tr} {S:Int×Int->Tr},Sx k d->Sxs k S->(∀(m:Nat) y,r[m]? =Y3 y->x.right[j+m]? =Y3 y)->
  (∀c,d.ev c=Y8->(P i).ev c=Y8/\(∀y∈x.right,y.t=Y6->Der l P Y6 c y.i)/\Bef l P c x.right j)->(∀n c,(S n).ev c=Y8->Fst l P c n.1 n.2)->∀n c,(fO N ts x.left d r S n).ev c=Y8->Fst l P c n.1 n.2
 |[],_,_,_,_,_,_,_,h=>h
 |s::r,j,d,S,hd,hS,hr,hdd,h=>by
  have hsj:=hr 0 s rfl;rw [Yy] at hsj;unfold fO;by_cases hs:s.t=Y8
  ·rw [Χ hs];intro n c hc;rw [dZ hS hd,X9,Xq,δ] at hc;rcases hc with hc|⟨rfl,hc⟩
   ·exact h n c hc
   ·obtain ⟨g1,g2,g3⟩:=hdd c hc;exact .tok i j x s hi g1 g2 hsj g3 hs
  ·rw [Υ hs];have hs:s.t=Y6:=XZ.2 hs;obtain ⟨h1,h2,h3,_⟩:=gx hd s.i x.left ts hS;refine xy hN ts hi r (j+1) (hd.ap2 (o:=aY) (hN.sx s.i)) h1 (λm y hm=>by rw [show j+1+m=j+(m+1) by omega];exact hr (m+1) y (by simpa using hm)) (λc hc=> ?_) λn c hc=> ?_
   ·rw [(bq hd.1 (hN.sx s.i).1).2,Xq] at hc;obtain ⟨g1,g2,g3⟩:=hdd c hc.1;refine ⟨g1,g2,λm y hm hy=> ?_⟩;by_cases e:m=j
    ·subst e;rw [hsj] at hy;cases hy;exact ⟨hs,(hN.iff _ _).1 hc.2⟩
    ·exact g3 m y (by omega) hy
   ·rcases h3 n c hc with hc|⟨g1,g2,t,_,g4,g5⟩
    ·exact h n c hc
    ·obtain ⟨q1,q2,q3⟩:=hdd c g1;rw [g2,g4];exact .non i j x s t hi q1 q2 hsj q3 hs (h _ _ g5)
theorem xz (hP:∀i,Sx k (P i)) (hN:bX k l P Y8 N) (hD:bX k l P Y6 D) (ts:Φ):∀(m:List Pr) (i:Nat) {S:Int×Int->Tr},(∀j x,m[j]? =Y3 x->l[i+j]? =Y3 x)->Sxs k S->(∀n c,(S n).ev c=Y8->Fst l P c n.1 n.2)->
  ∀n c,(iq P N D ts i m S n).ev c=Y8->Fst l P c n.1 n.2
 |[],_,_,_,_,h=>h
 |x::m,i,S,hl,hS,h=>by
  obtain ⟨f1,f2⟩:=bz hD.sx x.right (hP i);obtain ⟨a1,a2⟩:=f8 hN.sx ts x.left x.right f1 hS;have hi:l[i]? =Y3 x:=by have:=hl 0 x rfl;rwa [Yy] at this
  unfold iq;refine xz hP hN hD ts m (i+1) (λj y hj=>by rw [show i+1+j=i+(j+1) by omega];exact hl (j+1) y (by simpa using hj)) a1 ?_;refine xy hN ts hi x.right 0 f1 hS (λm y hm=>by rwa [Xm]) (λc hc=> ?_) h;rw [f2,Xq,XD] at hc;exact ⟨hc.1,λy hy hyt=>(hD.iff _ _).1 (by have:=hc.2 y hy;rwa [hyt,YM] at this),λm y hm=>by omega⟩
structure od (k:Nat) (l:List Pr) (P:Nat->Tr) (S:Int×Int->Tr):Prop where
 sx:Sxs k S
 iff:∀n c,(S n).ev c=Y8↔Fst l P c n.1 n.2
theorem E6 {S:Int×Int->Tr} {ts:Φ} (hts:∀x∈l,∀s∈x.right,s.t=Y8->s.i∈ts) (hP:∀i,Sx k (P i)) (hN:bX k l P Y8 N) (hD:bX k l P Y6 D) (hS:Sxs k S) (h:∀n c,(S n).ev c=Y8->Fst l P c n.1 n.2)
  (he:iq P N D ts 0 l S=S):od k l P S:=by
 have hin:∀{c:Cf} {a t:Int},Fst l P c a t->t∈ts:=λhf=>by
  induction hf with
  |tok i j x s hi _ _ hj _ hs=>exact hts x (W7 hi) s (W7 hj) hs
  |non _ _ _ _ _ _ _ _ _ _ _ _ ih=>exact ih
 refine ⟨hS,λn c=>⟨h n c,λhf=> ?_⟩⟩;have key:∀{a t:Int},Fst l P c a t->(S (a,t)).ev c=Y8:=λ{a t} hf=>by
  have cl:∀{i j:Nat} {x:Pr} {s:Sy},l[i]? =Y3 x->(P i).ev c=Y8->(∀y∈x.right,y.t=Y6->Der l P Y6 c y.i)->x.right[j]? =Y3 s->Bef l P c x.right j->
    (s.t=Y8->(S (x.left,s.i)).ev c=Y8)/\(s.t=Y6->∀t∈ts,(S (s.i,t)).ev c=Y8->(S (x.left,t)).ev c=Y8):=λ{i j x s} hi hp hd hj hb=>by
   have he2:=oc hP hN.sx hD.sx ts l 0 hS he i x hi;rw [Xm] at he2;refine oa hN.sx ts x.left x.right (bz hD.sx x.right (hP i)).1 hS he2 j s c hj ?_ λm y hm hy=>⟨(hb m y hm hy).1,(hN.iff _ _).2 (hb m y hm hy).2⟩;rw [(bz hD.sx x.right (hP i)).2,hp,Yp,XD];intro y hy;cases hyt:y.t with
   |true=>rfl
   |false=>rw [YM];exact (hD.iff _ _).2 (hd y hy hyt)
  induction hf with
  |tok i j x s hi hp hd hj hb hs=>exact (cl hi hp hd hj hb).1 hs
  |non i j x s t hi hp hd hj hb hs hf ih=>exact (cl hi hp hd hj hb).2 hs t (hin hf) ih
 exact key hf
end
variable {R:VR} {F:PH}
set_option maxHeartbeats 4000000
def P0 (c:Γ) (R:VR) (F:PH):Prop:=Nb F (Y4 c 37) λg F=>Nb F (Y4 (#[Zm Y5 0 0]) 39) λb F=>Lr F 9 (Am g 0) λd=>Ci 51 #[Y9 d,.func (.func 52) #[] #[(Pp g),(Pp b)]] F λe F=>Ls F (Am b 0) λf=>sto F (Am b 0) (Y7 f) λF=>Ls F (Am b 0) λa=>R (Zh #[Y7 a,(vi e)]) F
theorem Ve {a:Γ} (h:P0 a R F):ν 14 #[Y9 a] F R:=Rx.Λ .N h
def P5 (c:Γ) (R:VR) (F:PH):Prop:=Nb F (Y4 c 37) λg F=>Nb F (Y4 (#[Zm Y5 0 0]) 39) λb F=>Lr F 9 (Am g 0) λd=>Ci 51 #[Y9 d,.func (.func 57) #[] #[(Pp g),(Pp b)]] F λe F=>Ls F (Am b 0) λf=>sto F (Am b 0) (Y7 f) λF=>Ls F (Am b 0) λa=>R (Zh #[Y7 a,(vi e)]) F
theorem Vf {a:Γ} (h:P5 a R F):ν 16 #[Y9 a] F R:=Rx.Λ .N h
def P6 (c:Γ) (R:VR) (F:PH):Prop:=Nb F (Y4 c 37) λg F=>Nb F (Y4 (#[Zm Y5 0 0]) 39) λb F=>Lr F 9 (Am g 0) λd=>Ci 51 #[Y9 d,.func (.func 58) #[] #[(Pp g),(Pp b)]] F λe F=>Ls F (Am b 0) λf=>sto F (Am b 0) (Y7 f) λF=>Ls F (Am b 0) λa=>R (Zh #[Y7 a,(vi e)]) F
theorem Vg {a:Γ} (h:P6 a R F):ν 19 #[Y9 a] F R:=Rx.Λ .N h
def P7 (c:Γ) (R:VR) (F:PH):Prop:=Nb F (Y4 c 37) λg F=>Nb F (Y4 (#[Zm Y5 0 0]) 39) λb F=>Lr F 9 (Am g 0) λd=>Ci 51 #[Y9 d,.func (.func 62) #[] #[(Pp g),(Pp b)]] F λe F=>Ls F (Am b 0) λf=>sto F (Am b 0) (Y7 f) λF=>Ls F (Am b 0) λa=>R (Zh #[Y7 a,(vi e)]) F
theorem Vh {a:Γ} (h:P7 a R F):ν 21 #[Y9 a] F R:=Rx.Λ .N h
def Qa (c:Γ) (R:VR) (F:PH):Prop:=Nb F (Y4 c 37) λf F=>Nb F (Y4 (#[Za Y6]) 4) λd F=>sto F (Am d 0) (Za Y6) λF=>Lr F 9 (Am f 0) λe=>Ci 51 #[Y9 e,.func (.func 71) #[] #[(Pp d)]] F λa F=>Bc (a=0) (Lb F (Am d 0) λb=>Bb (b) (R (vi 60) F) (R (vi a) F)) (R (vi a) F)
theorem Vi {a:Γ} (h:Qa a R F):ν 23 #[Y9 a] F R:=Rx.Λ .N h
def Qb (c:Γ) (R:VR) (F:PH):Prop:=Nb F (Y4 c 37) λg F=>Nb F (Y4 (#[Zm Y5 0 0]) 46) λb F=>Lr F 9 (Am g 0) λd=>Ci 51 #[Y9 d,.func (.func 72) #[] #[(Pp g),(Pp b)]] F λe F=>Ls F (Am b 0) λf=>sto F (Am b 0) (Y7 f) λF=>Ls F (Am b 0) λa=>R (Zh #[Y7 a,(vi e)]) F
theorem Vj {a:Γ} (h:Qb a R F):ν 25 #[Y9 a] F R:=Rx.Λ .N h
def E8 (b:ξ) (g e:Nat) (R:VR) (F:PH):Prop:=Fn b λf c d=>ai prog f (c++([(Pp e)]).toArray++d) F λv F=>v=(Zh #[])/\sto F (Am g 0) (vi 0) λF=>Li F (Am g 0) λa=>R (vi a) F
def E9 (d:Ω) (_:ξ) (_ _ _:Nat) (_:Sl) (a:Int) (_:VR) (F:PH):Prop:=d (i64.wrap (a+1)) F
def zc (i:Ω) (b:ξ) (j k c l:Nat) (d:Sl) (e:Int) (R:VR) (F:PH):Prop:=Ls F (Am c 9) λf=>Lr F 2 (Am l 0) λa=>a.size=2/\Nb F (Y4 a 31) λh F=>Ap 39 #[Y7 f,Y7 (Sb h 1)] F λg F=>sto F (Am c 9) (Y7 g) λF=>E9 i b j k c d e R F
def u0 (_ f:Ω) (_:ξ) (_ _ _ _:Nat) (_:Sl) (_:Int) (_:Sl) (a:Int) (_:VR) (F:PH):Prop:=f (i64.wrap (a+1)) F
def u6 (u x:Ω) (b:ξ) (l w k m:Nat) (f:Sl) (g:Int) (c:Sl) (R:VR) (a:Int) (F:PH):Prop:=Bc (a<(c.len:Int)) (Ix c a λn=>Lr F 2 (Zb n (Zd a*2)) λo=>Nb F (Y4 (#[Za Y6,vi 0]) 63) λh F=>au F (Am h 0) 2 o λF=>Lb F (Am h 0) λp=>Bb (p) (Lr F 2 (Am m 0) λq=>Ls F (Am l 3) λi=>Li F (Am h 1) λd=>Ix i d λr=>Lr F 2 (Zb (Zb r (Zd d*7)) 5) λs=>ν 35 #[Y9 q,Y9 s] F λv F=>∃j,∃e,v=(Zh #[Y9 j,(vi e)])/\F.cell (Am h 1)=Y3 (vi d)/\F.cell (Am l 3)=Y3 (Y7 i)/\Ca 65 #[Y9 j,(vi e)] F λt F=>F.cell (Am h 1)=Y3 (vi d)/\F.cell (Am l 3)=Y3 (Y7 i)/\au F (Am m 0) 2 t λF=>u0 u x b l w k m f g c a R F) (u0 u x b l w k m f g c a R F)) (zc u b l w k m f g R F)
def zd (t:Ω) (c:ξ) (q r g:Nat) (d:Sl) (R:VR) (a:Int) (F:PH):Prop:=Bc (a<(d.len:Int)) (Ix d a λh=>Lr F 13 (Zb h (Zd a*13)) λi=>Nb F (Y4 zP 55) λo F=>au F (Am o 0) 13 i λF=>Lr F 2 (Am q 1) λj=>Lr F 2 (Am o 3) λk=>ν 35 #[Y9 j,Y9 k] F λv F=>∃e,∃b,v=(Zh #[Y9 e,(vi b)])/\Ca 65 #[Y9 e,(vi b)] F λl F=>Nb F (Y4 zD 31) λs F=>au F (Am s 0) 2 l λF=>Ls F (Am o 2) λm=>(∃(p:Nat->Ω) (n:Nat),p n 0 F/\∀n f F,p n f F-> u6 t (nx1 p n) c q r g s d a m R f F)) (E8 c r g R F)
def Qc (j:Γ) (d:ξ) (R:VR) (F:PH):Prop:=Nb F (Y4 j 37) λh F=>Nb F (Y4 (#[vi 0]) 40) λi F=>Lr F 9 (Am h 0) λe=>Ci 36 #[Y9 e] F λb F=>Bc (b≠0) (sto F (Am i 0) (vi b) λF=>Li F (Am i 0) λa=>R (vi a) F) (Av prog ⟨.fn (.func 112) #[(Pp i)],#[]++[].toArray⟩/\Lr F 9 (Am h 0) λc=>c.size=9/\Nb F (Y4 (wr (#[Zm Y5 0 0,.slice Y5 0 0,vi 0,.slice Y5 0 0,.slice Y5 0 0,.slice Y5 0 0,vi 0,.slice Y5 0 0,.slice Y5 0 0,.slice Y5 0 0]:Γ) 0 c.toList) 107) λk F=>Ls F (Am h 5) λf=>Lp 0 F λN g F=>zd N d h i k f R g F)
theorem Vk {b:Γ} {a:ξ} (h:Qc b a R F):ν 51 #[Y9 b,a] F R:=Rx.Λ (.Y2 (.Y2 (.Y2 (.Y2 (.J Y6 [] (.Y2 (.L [(24,.int .i64)] (.Y2 (.Y2 (.J Y6 [] (.Y2 (.Y2 (.J Y6 [] (.Y2 (.L [(39,.int .i64)] (.Y2 (.Y2 (.J Y6 [] .N .N))))) .N))) .N))))) .N))))) h
def Qd (e f g:Θ) (R:VR) (F:PH):Prop:=∃a,f=Y3 a/\Ls F (Zb a 4) λc=>ν 54 #[Ze e,Za Y8] F λv F=>∃d:Option Nat,v=(.map d)/\F.cell (Zb a 4)=Y3 (Y7 c)/\Cs 53 #[.map d,(vi (c.len:Int))] F λh F=>F.cell (Zb a 4)=Y3 (Y7 c)/\∃b,g=Y3 b/\sto F b (Y7 h) λF=>R (Zh #[]) F
theorem Vl {a:Θ} {b:Θ} {c:Θ} (h:Qd a b c R F):ν 52 #[Ze a,Ze b,Ze c] F R:=Rx.Λ .N h
def Fb (a:Sl) (R:VR) (F:PH):Prop:=R (Y7 a) F
def u7 (j:Ω) (b:Option Nat) (d:Sl) (R:VR) (a:Int) (F:PH):Prop:=Bc (a<(d.len:Int)) (Ca 66 #[.map b,(vi a)] F λe F=>Nb F (Y4 zD 31) λi F=>au F (Am i 0) 2 e λF=>Ls F (Am i 0) λf=>Li F (Am i 1) λc=>Ap 29 #[Y7 Zi,Y7 f] F λg F=>F.cell (Am i 1)=Y3 (vi c)/\Ix d a λh=>au F (Zb h (Zd a*2)) 2 (#[Y7 g,(vi c)]:Γ) λF=>j (i64.wrap (a+1)) F) (Fb d R F)
def Qe (a:Option Nat) (b:Int) (R:VR) (F:PH):Prop:=aF prog (Instr.makeSlice 39 (vi b) (vi b)) F λv F=>∃c,v=(Y7 c)/\Lp 0 F λN d F=>u7 N a c R d F
theorem Vm {a:Option Nat} {b:Int} (h:Qe a b R F):ν 53 #[.map a,(vi b)] F R:=Rx.Λ (.Y2 (.Y2 (.J Y6 [] (.Y2 (.L [(12,.int .i64)] .N)) .N))) h
def Qf (e:Θ) (a:Bool) (R:VR) (F:PH):Prop:=Nb F (Y4 #[Ze e] 93) λf F=>Nb F (Y4 #[Za a] 4) λg F=>Nb F (.map #[] 0) λh F=>Nb F (Y4 (#[.map Y5]) 95) λd F=>sto F (Am d 0) (.map (Y3 h)) λF=>∃c:Option Nat,F.cell (Am d 0)=Y3 (.map c)/\Cu 63 #[.map c,.func (.func 113) #[] #[(Pp f),(Pp g),(Pp d)]] F λF=>∃b:Option Nat,F.cell (Am d 0)=Y3 (.map b)/\R (.map b) F
theorem Vn {b:Θ} {a:Bool} (h:Qf b a R F):ν 54 #[Ze b,Za a] F R:=Rx.Λ .N h
def Qg (e f g:Θ) (R:VR) (F:PH):Prop:=∃a,f=Y3 a/\Ls F (Zb a 4) λc=>ν 54 #[Ze e,Za Y6] F λv F=>∃d:Option Nat,v=(.map d)/\F.cell (Zb a 4)=Y3 (Y7 c)/\Cs 53 #[.map d,(vi (c.len:Int))] F λh F=>F.cell (Zb a 4)=Y3 (Y7 c)/\∃b,g=Y3 b/\sto F b (Y7 h) λF=>R (Zh #[]) F
theorem Vo {a:Θ} {b:Θ} {c:Θ} (h:Qg a b c R F):ν 57 #[Ze a,Ze b,Ze c] F R:=Rx.Λ .N h
def Qh (e f g:Θ) (R:VR) (F:PH):Prop:=∃a,f=Y3 a/\Ls F (Zb a 4) λc=>ν 59 #[Ze e] F λv F=>∃d:Option Nat,v=(.map d)/\F.cell (Zb a 4)=Y3 (Y7 c)/\Cs 53 #[.map d,(vi (c.len:Int))] F λh F=>F.cell (Zb a 4)=Y3 (Y7 c)/\∃b,g=Y3 b/\sto F b (Y7 h) λF=>R (Zh #[]) F
theorem Vp {a:Θ} {b:Θ} {c:Θ} (h:Qh a b c R F):ν 58 #[Ze a,Ze b,Ze c] F R:=Rx.Λ .N h
def Fc (a:Nat) (R:VR) (F:PH):Prop:=R (.map (Y3 a)) F
def u9 (e:Ω) (_:Addr) (_ _ _:Nat) (_:Sl) (a:Int) (_:VR) (F:PH):Prop:=e (i64.wrap (a+1)) F
def Fd (i:Ω) (f:Addr) (j g c:Nat) (a:Int) (h:Nat) (d:Sl) (R:VR) (F:PH):Prop:=∃b:Option Nat,F.cell (Am h 0)=Y3 (.map b)/\Ca 66 #[.map b,(vi a)] F λe F=>aF prog (Instr.mapUpdate 95 (.map (Y3 c)) (vi a) (Y9 e)) F λ_ F=>u9 i f j g c d a R F
def Fe (q:Ω) (o:Ψ) (l:Addr) (p m n:Nat) (c:Int) (g d:Nat) (h:Sl) (R:VR) (F:PH):Prop:=Ls F (Am d 0) λi=>Bc ((0:Int)<(i.len:Int)) (Ls F (Am d 0) λj=>Ix j 0 λk=>Li F (Zb k (Zd 0*1)) λb=>Ls F (Am d 0) λa=>1<=a.len/\a.len<=a.cap/\sto F (Am d 0) (Y7 (Sl.cut a 1 1 a.len a.cap)) λF=>Bc (b≠c) (∃e:Option Nat,F.cell (Am g 0)=Y3 (.map e)/\∃f,rdo prog (Instr.lookup 95 (.map e) (vi b) Y6) F (Y9 f)/\Cu 121 #[(vi b),Y9 f,(Pp m),(Pp g),(Pp p),(Pp d)] F λF=>o F) (o F)) (Fd q l p m n c g h R F)
def ze (p:Ω) (c:Addr) (n g d:Nat) (b:Sl) (R:VR) (a:Int) (F:PH):Prop:=Bc (a<(b.len:Int)) (∃e:Option Nat,F.cell (Am g 0)=Y3 (.map e)/\∃f,rdo prog (Instr.lookup 164 (.map e) (vi a) Y6) F (Y7 f)/\Bc ((f.len:Int)=0) (u9 p c n g d b a R F) (Nb F (.map #[] 0) λk F=>Nb F (Y4 (#[.map Y5]) 95) λh F=>sto F (Am h 0) (.map (Y3 k)) λF=>Nb F (Y4 #[] 3) λl F=>Nb F (Y4 (#[Zm Y5 0 0]) 67) λi F=>sto F (Am i 0) (Y7 (Sb l 0)) λF=>Lr F 2 (Zb c 1) λj=>Cu 121 #[(vi a),Y9 j,(Pp g),(Pp h),(Pp n),(Pp i)] F λF=>(∃(o:Nat->Ψ) (m:Nat),o m F/\∀m F,o m F-> Fe p (λF=>∃q,q<m/\o q F) c n g d a h i b R F))) (Fc d R F)
def va (e:Θ) (g f:Nat) (R:VR) (F:PH):Prop:=Nb F (.map #[] 0) λd F=>∃a,e=Y3 a/\Ls F (Zb a 4) λb=>Lp 0 F λN c F=>ze N a g f d b R c F
def Ff (q:Ψ) (p:Θ) (r d l:Nat) (R:VR) (F:PH):Prop:=aF prog (Instr.next (Pp l) Y6 0) F λv F=>∃e,v=(Zh e)/\∃f,e[0]? =Y3 (Za f)/\Bb (f) (∃g,rdo prog (Instr.entry (Pp l)) F (Zh g)/\∃h,g[0]? =Y3 (Y9 h)/\Nb F (Y4 (#[vi 0,vi 0]) 115) λc F=>au F (Am c 0) 2 h λF=>∃a:Option Nat,F.cell (Am d 0)=Y3 (.map a)/\0<=(0:Int)/\(0:Int)<2/\Li F (Zb (Am c 0) (Zd 0*1)) λi=>∃b:Option Nat,F.cell (Am d 0)=Y3 (.map b)/\0<=(0:Int)/\(0:Int)<2/\Li F (Zb (Am c 0) (Zd 0*1)) λj=>∃k,rdo prog (Instr.lookup 164 (.map b) (vi j) Y6) F (Y7 k)/\0<=(1:Int)/\(1:Int)<2/\Li F (Zb (Am c 0) (Zd 1*1)) λm=>Nb F (Y4 #[(vi m)] 3) λo F=>Ap 67 #[Y7 k,Y7 (Sb o 1)] F λn F=>F.cell (Zb (Am c 0) (Zd 0*1))=Y3 (vi j)/\F.cell (Am d 0)=Y3 (.map b)/\F.cell (Zb (Am c 0) (Zd 0*1))=Y3 (vi i)/\F.cell (Am d 0)=Y3 (.map a)/\aF prog (Instr.mapUpdate 164 (.map a) (vi i) (Y7 n)) F λ_ F=>q F) (va p r d R F)
def vb (e:Θ) (h:Nat) (R:VR) (F:PH):Prop:=Nb F (.map #[] 0) λf F=>Nb F (Y4 (#[.map Y5]) 164) λc F=>sto F (Am c 0) (.map (Y3 f)) λF=>∃a:Option Nat,F.cell (Am h 0)=Y3 (.map a)/\aF prog (Instr.range 113 (.map a)) F λv F=>∃b:Nat,v=(Pp b)/\(∃(g:Nat->Ψ) (d:Nat),g d F/\∀d F,g d F-> Ff (λF=>∃i,i<d/\g i F) e h c b R F)
def Fh (e:Ω) (_:Addr) (_:Option Nat) (_:Nat) (_:Sl) (a:Int) (_:VR) (F:PH):Prop:=e (i64.wrap (a+1)) F
def mY (_ g:Ω) (_:Addr) (_:Option Nat) (_:Nat) (_:Int) (_:Nat) (_ _:Sl) (a:Int) (_:VR) (F:PH):Prop:=g (i64.wrap (a+1)) F
def Fj (x y:Ω) (b:Addr) (f:Option Nat) (n:Nat) (g:Int) (w z o:Nat) (h i:Sl) (j:Int) (R:VR) (F:PH):Prop:=Li F (Am o 1) λp=>Bc (p≠0) (Li F (Am w 1) λq=>Li F (Am z 1) λr=>Nb F (Y4 (#[vi 0,vi 0]) 115) λe F=>au F (Am e 0) 2 (#[(vi q),(vi r)]:Γ) λF=>∃a:Option Nat,F.cell (Am n 0)=Y3 (.map a)/\Lr F 2 (Am e 0) λc=>∃k:Option Nat,F.cell (Am n 0)=Y3 (.map k)/\Lr F 2 (Am e 0) λs=>Lr F 2 (Am o 0) λl=>Ca 75 #[.map k,Y9 s] F λt F=>F.row (Am o 0) l/\F.row (Am e 0) c/\F.cell (Am n 0)=Y3 (.map a)/\ν 28 #[Y9 t,Y9 l] F λv F=>∃m,∃d,v=(Zh #[Y9 m,(vi d)])/\F.row (Am e 0) c/\F.cell (Am n 0)=Y3 (.map a)/\Ca 65 #[Y9 m,(vi d)] F λu F=>F.row (Am e 0) c/\F.cell (Am n 0)=Y3 (.map a)/\aF prog (Instr.mapUpdate 113 (.map a) (Y9 c) (Y9 u)) F λ_ F=>mY x y b f n g w h i j R F) (mY x y b f n g w h i j R F)
def vc (_ _ i:Ω) (_:Addr) (_:Option Nat) (_:Nat) (_:Int) (_ _ _:Nat) (_ _:Sl) (_:Int) (_:Sl) (a:Int) (_:VR) (F:PH):Prop:=i (i64.wrap (a+1)) F
def zg (o p t:Ω) (a:Addr) (d:Option Nat) (q:Nat) (e:Int) (r s i:Nat) (f g:Sl) (h:Int) (c:Sl) (R:VR) (b:Int) (F:PH):Prop:=Bc (b<(c.len:Int)) (Ix c b λj=>Lr F 2 (Zb j (Zd b*2)) λk=>Nb F (Y4 (#[Za Y6,vi 0]) 63) λl F=>au F (Am l 0) 2 k λF=>Lb F (Am l 0) λm=>Bb (m) (Ca 27 #[Za Y6] F λn F=>au F (Am i 0) 2 n λF=>vc o p t a d q e r s i f g h c b R F) (vc o p t a d q e r s i f g h c b R F)) (Fj o p a d q e r s i f g h R F)
def zh (v A:Ω) (c:Addr) (f:Option Nat) (w:Nat) (d:Int) (i:Nat) (h g:Sl) (R:VR) (a:Int) (F:PH):Prop:=Bc (a<(g.len:Int)) (Ix g a λl=>Lr F 2 (Zb l (Zd a*2)) λm=>Nb F (Y4 (#[Za Y6,vi 0]) 63) λx F=>au F (Am x 0) 2 m λF=>Lb F (Am x 0) λn=>Bb (n) (mY v A c f w d i h g a R F) (Ls F (Am i 2) λe=>0<=a/\0<=(Zd a)/\(Zd a)<=e.cap/\Ls F (Am i 2) λb=>0<=(i64.wrap (a+1))/\(Zd (i64.wrap (a+1)))<=b.len/\b.len<=b.cap/\Nb F (Y4 #[] 63) λy F=>Ap 50 #[Y7 (Sb y 0),Y7 (Sl.cut e 2 0 (Zd a) e.cap)] F λo F=>F.cell (Am i 2)=Y3 (Y7 b)/\F.cell (Am i 2)=Y3 (Y7 e)/\Ap 50 #[Y7 o,Y7 (Sl.cut b 2 (Zd (i64.wrap (a+1))) b.len b.cap)] F λj F=>F.cell (Am i 2)=Y3 (Y7 b)/\F.cell (Am i 2)=Y3 (Y7 e)/\Ls F (Zb c 9) λp=>Ix p d λq=>Lr F 2 (Zb q (Zd d*2)) λr=>Ca 67 #[Y9 r,Y7 j,.map f] F λs F=>Nb F (Y4 zD 31) λt F=>au F (Am t 0) 2 s λF=>(∃(z:Nat->Ω) (u:Nat),z u 0 F/\∀u k F,z u k F-> zg v A (nx1 z u) c f w d i x t h g a j R k F))) (Fh v c f w h d R F)
def vd (m:Ω) (a:Addr) (e:Option Nat) (l:Nat) (c:Sl) (R:VR) (b:Int) (F:PH):Prop:=Bc (b<(c.len:Int)) (Ix c b λf=>Lr F 13 (Zb f (Zd b*13)) λg=>Nb F (Y4 zP 55) λj F=>au F (Am j 0) 13 g λF=>Ls F (Am j 2) λh=>(∃(k:Nat->Ω) (i:Nat),k i 0 F/\∀i d F,k i d F-> zh m (nx1 k i) a e l b j c h R d F)) (vb (Y3 a) l R F)
def Qi (c:Θ) (R:VR) (F:PH):Prop:=ν 54 #[Ze c,Za Y8] F λv F=>∃b:Option Nat,v=(.map b)/\Nb F (.map #[] 0) λf F=>Nb F (Y4 (#[.map Y5]) 113) λg F=>sto F (Am g 0) (.map (Y3 f)) λF=>∃a,c=Y3 a/\Ls F (Zb a 5) λd=>Lp 0 F λN e F=>vd N a b g d R e F
theorem Vq {a:Θ} (h:Qi a R F):ν 59 #[Ze a] F R:=Rx.Λ (.Y2 (.Y2 (.Y2 (.J Y6 [(0,.ptr)] (.Y2 (.L [(31,.int .i64)] (.Y2 (.Y2 (.J Y6 [] (.Y2 (.Y2 (.L [(39,.int .i64)] (.Y2 (.Y2 (.J Y6 [] (.Y2 (.Y2 (.Y2 (.Y2 (.J Y6 [] (.Y2 (.L [(70,.int .i64)] (.Y2 (.Y2 (.J Y6 [] .N .N))))) .N))))) .N)))))) .N))))) (.Y2 (.J Y6 [] (.Y2 (.L [] .N)) (.Y2 (.J Y6 [] (.Y2 (.L [(123,.int .i64)] (.Y2 (.Y2 (.J Y6 [] (.Y2 (.Y2 (.Y2 (.Y2 (.Y2 (.Y2 (.J Y6 [] (.L [] .N) .N))))))) .N))))) .N)))))))) h
def Qj (j k l:Θ) (R:VR) (F:PH):Prop:=Nb F (Y4 #[Ze j] 93) λq F=>Lq F (Am q 0) λm=>ν 54 #[Ze m,Za Y6] F λv F=>∃e:Option Nat,v=(.map e)/\Nb F (Y4 (#[.map Y5]) 95) λr F=>sto F (Am r 0) (.map e) λF=>Nb F (.map #[] 0) λs F=>∃a,k=Y3 a/\Li F (Zb a 6) λf=>Lr F 2 (Zb a 1) λg=>aF prog (Instr.mapUpdate 95 (.map (Y3 s)) (vi f) (Y9 g)) F λ_ F=>Nb F (Y4 (#[.map Y5]) 95) λn F=>sto F (Am n 0) (.map (Y3 s)) λF=>Nb F (.map #[] 0) λo F=>Nb F (Y4 (#[.map Y5]) 95) λp F=>sto F (Am p 0) (.map (Y3 o)) λF=>∃b:Option Nat,F.cell (Am n 0)=Y3 (.map b)/\Cu 63 #[.map b,.func (.func 64) #[] #[Ze (Y3 a),(Pp n),(Pp q),(Pp r),(Pp p)]] F λF=>∃c:Option Nat,F.cell (Am p 0)=Y3 (.map c)/\Ls F (Zb a 5) λh=>Cs 53 #[.map c,(vi (h.len:Int))] F λi F=>∃d,l=Y3 d/\sto F d (Y7 i) λF=>R (Zh #[]) F
theorem Vr {a:Θ} {b:Θ} {c:Θ} (h:Qj a b c R F):ν 62 #[Ze a,Ze b,Ze c] F R:=Rx.Λ .N h
def Fl (i:Θ->Ψ) (c:ξ) (j:Nat) (R:VR) (b:Θ) (F:PH):Prop:=∃a,b=Y3 a/\Lb F a λg=>Bb (g) (sto F a (Za Y6) λF=>Fn c λk e f=>ai prog k (e++([(Value.func (.func 124) #[] #[(Pp j),(Ze (Y3 a))])]).toArray++f) F λv F=>v=(Zh #[])/\Lb F a λh=>Nb F (Y4 (#[Za Y6]) 4) λd F=>sto F (Am d 0) (Za h) λF=>i (Y3 (Am d 0)) F) (R (Zh #[]) F)
def Qk (c:Option Nat) (b:ξ) (R:VR) (F:PH):Prop:=Nb F (Y4 #[.map c] 95) λg F=>Nb F (Y4 (#[Za Y6]) 4) λf F=>sto F (Am f 0) (Za Y8) λF=>(∃(e:Nat->Θ->Ψ) (d:Nat),e d (Y3 (Am f 0)) F/\∀d a F,e d a F-> Fl (nx1 e d) b g R a F)
theorem Vs {b:Option Nat} {a:ξ} (h:Qk b a R F):ν 63 #[.map b,a] F R:=Rx.Λ (.Y2 (.Y2 (.L [(4,.ptr)] .N))) h
def Fm (d:Ω) (_:ξ) (_ _ _ _:Θ) (_:Sl) (a:Int) (_:VR) (F:PH):Prop:=d (i64.wrap (a+1)) F
def ve (_ i:Ω) (_:ξ) (_ _:Θ) (_ _ _:Addr) (_:Sl) (_:Int) (_:Sl) (a:Int) (_:VR) (F:PH):Prop:=i (i64.wrap (a+1)) F
def zi (s u:Ω) (a:ξ) (i j:Θ) (d e f:Addr) (g:Sl) (h:Int) (c:Sl) (R:VR) (b:Int) (F:PH):Prop:=Bc (b<(c.len:Int)) (Ix c b λn=>Lr F 2 (Zb n (Zd b*2)) λo=>Nb F (Y4 (#[Za Y6,vi 0]) 63) λk F=>au F (Am k 0) 2 o λF=>Lb F (Am k 0) λp=>Bb ((!p)) (Li F (Am k 1) λq=>Lr F 2 f λr=>Fn a λt l m=>ai prog t (l++([(vi q),(Y9 r)]).toArray++m) F λv F=>v=(Zh #[])/\ve s u a i j d e f g h c b R F) (ve s u a i j d e f g h c b R F)) (Fm s a i j (Y3 d) (Y3 e) g h R F)
def kK (w:Ω) (h:ξ) (p q r s:Θ) (d:Int) (v:Nat) (i:Sl) (t:Θ) (R:VR) (F:PH):Prop:=∃a,t=Y3 a/\Lr F 2 a λj=>Ls F (Am v 2) λk=>∃b,r=Y3 b/\∃e:Option Nat,F.cell b=Y3 (.map e)/\Ca 67 #[Y9 j,Y7 k,.map e] F λl F=>au F a 2 l λF=>∃c,s=Y3 c/\∃f:Option Nat,F.cell c=Y3 (.map f)/\Lr F 2 a λm=>aF prog (Instr.mapUpdate 95 (.map f) (vi d) (Y9 m)) F λ_ F=>Ls F (Am v 2) λn=>(∃(u:Nat->Ω) (o:Nat),u o 0 F/\∀o g F,u o g F-> zi w (nx1 u o) h p q b c a i d n R g F)
def zj (I:Ω) (h:ξ) (J K r s:Θ) (f:Sl) (R:VR) (c:Int) (F:PH):Prop:=Bc (c<(f.len:Int)) (Ix f c λE=>Lr F 13 (Zb E (Zd c*13)) λG=>Nb F (Y4 zP 55) λD F=>au F (Am D 0) 13 G λF=>∃g,J=Y3 g/\∃o:Option Nat,F.cell g=Y3 (.map o)/\Li F (Am D 1) λy=>∃a,K=Y3 a/\Lq F a λd=>∃b,d=Y3 b/\Ls F (Zb b 9) λe=>Ix e c λp=>Lr F 2 (Zb p (Zd c*2)) λj=>((Ca 66 #[.map o,(vi y)] F λz F=>F.row (Zb p (Zd c*2)) j/\F.cell (Zb b 9)=Y3 (Y7 e)/\F.cell a=Y3 (Ze d)/\((ν 35 #[Y9 z,Y9 j] F λv F=>∃q,∃i,v=(Zh #[Y9 q,(vi i)])/\F.cell (Zb b 9)=Y3 (Y7 e)/\F.cell a=Y3 (Ze d)/\((Ca 65 #[Y9 q,(vi i)] F λH F=>F.cell (Zb b 9)=Y3 (Y7 e)/\F.cell a=Y3 (Ze d)/\Nb F (Y4 zD 31) λL F=>au F (Am L 0) 2 H λF=>kK I h (Y3 g) (Y3 a) r s c D f (Y3 (Am L 0)) R F)/\(Nb F (Y4 zD 31) λA F=>Ca 65 #[Y9 q,(vi i)] F λt F=>F.cell (Zb b 9)=Y3 (Y7 e)/\F.cell a=Y3 (Ze d)/\au F (Am A 0) 2 t λF=>kK I h (Y3 g) (Y3 a) r s c D f (Y3 (Am A 0)) R F)))/\(Nb F (Y4 zD 31) λB F=>ν 35 #[Y9 z,Y9 j] F λv F=>∃k,∃l,v=(Zh #[Y9 k,(vi l)])/\F.cell (Zb b 9)=Y3 (Y7 e)/\F.cell a=Y3 (Ze d)/\Ca 65 #[Y9 k,(vi l)] F λu F=>F.cell (Zb b 9)=Y3 (Y7 e)/\F.cell a=Y3 (Ze d)/\au F (Am B 0) 2 u λF=>kK I h (Y3 g) (Y3 a) r s c D f (Y3 (Am B 0)) R F)))/\(Nb F (Y4 zD 31) λC F=>Ca 66 #[.map o,(vi y)] F λw F=>F.row (Zb p (Zd c*2)) j/\F.cell (Zb b 9)=Y3 (Y7 e)/\F.cell a=Y3 (Ze d)/\ν 35 #[Y9 w,Y9 j] F λv F=>∃m,∃n,v=(Zh #[Y9 m,(vi n)])/\F.cell (Zb b 9)=Y3 (Y7 e)/\F.cell a=Y3 (Ze d)/\Ca 65 #[Y9 m,(vi n)] F λx F=>F.cell (Zb b 9)=Y3 (Y7 e)/\F.cell a=Y3 (Ze d)/\au F (Am C 0) 2 x λF=>kK I h (Y3 g) (Y3 a) r s c D f (Y3 (Am C 0)) R F))) (R (Zh #[]) F)
def Ql (b:ξ) (e f g h i:Θ) (R:VR) (F:PH):Prop:=∃a,e=Y3 a/\Ls F (Zb a 5) λc=>Lp 0 F λN d F=>zj N b f g h i c R d F
theorem Vt {a:ξ} {b:Θ} {c:Θ} {d:Θ} {e:Θ} {f:Θ} (h:Ql a b c d e f R F):ν 64 #[a,Ze b,Ze c,Ze d,Ze e,Ze f] F R:=Rx.Λ (.Y2 (.L [(15,.int .i64)] (.Y2 (.Y2 (.J Y6 [(4,.ptr),(5,.ptr)] (.Y2 (.J Y6 [(2,.ptr),(3,.ptr),(9,.ptr)] .N (.Y2 (.Y2 (.Y2 (.L [(46,.int .i64)] (.Y2 (.Y2 (.J Y6 [] .N .N))))))))) .N))))) h
def Qm (b:Γ) (c:Int) (R:VR) (F:PH):Prop:=Nb F (Y4 b 31) λe F=>Nb F (Y4 zD 31) λd F=>Bc (c≠0) (False) (Lr F 2 (Am e 0) λa=>au F (Am d 0) 2 a λF=>Rr 2 (Am d 0) R F)
theorem Vu {a:Γ} {b:Int} (h:Qm a b R F):ν 65 #[Y9 a,(vi b)] F R:=Rx.Λ .N h
def Qn (b:Option Nat) (g:Int) (R:VR) (F:PH):Prop:=Nb F (Y4 zD 31) λf F=>∃(c:Γ) (a:Bool),rdo prog (Instr.lookup 95 (.map b) (vi g) Y8) F (Zh #[Y9 c,Za a])/\Nb F (Y4 zD 31) λh F=>au F (Am h 0) 2 c λF=>Bb (a) (Lr F 2 (Am h 0) λd=>au F (Am f 0) 2 d λF=>Rr 2 (Am f 0) R F) (Ca 27 #[Za Y6] F λe F=>au F (Am f 0) 2 e λF=>Rr 2 (Am f 0) R F)
theorem Vv {a:Option Nat} {b:Int} (h:Qn a b R F):ν 66 #[.map a,(vi b)] F R:=Rx.Λ .N h
def Fo (c b:Nat) (R:VR) (F:PH):Prop:=Lr F 2 (Am c 0) λa=>au F (Am b 0) 2 a λF=>Rr 2 (Am b 0) R F
def vf (c:Ω) (_:Option Nat) (_ _:Nat) (_:Sl) (a:Int) (_:VR) (F:PH):Prop:=c (i64.wrap (a+1)) F
def vh (l:Ω) (a:Option Nat) (f m n:Nat) (g:Sl) (c:Int) (h:Bool) (R:VR) (F:PH):Prop:=Bb (h) (Lr F 2 (Am f 0) λd=>Li F (Am n 1) λi=>Ca 66 #[.map a,(vi i)] F λj F=>F.row (Am f 0) d/\ν 35 #[Y9 d,Y9 j] F λv F=>∃e,∃b,v=(Zh #[Y9 e,(vi b)])/\Ca 65 #[Y9 e,(vi b)] F λk F=>au F (Am f 0) 2 k λF=>vf l a f m g c R F) (vf l a f m g c R F)
def zk (k:Ω) (b:Option Nat) (h j:Nat) (c:Sl) (R:VR) (a:Int) (F:PH):Prop:=Bc (a<(c.len:Int)) (Ix c a λd=>Lr F 2 (Zb d (Zd a*2)) λe=>Nb F (Y4 (#[Za Y6,vi 0]) 63) λi F=>au F (Am i 0) 2 e λF=>Lb F (Am i 0) λf=>Bb ((!f)) (Li F (Am h 1) λg=>vh k b h j i c a (decide (g≠0)) R F) (vh k b h j i c a Y6 R F)) (Fo h j R F)
def Qo (c:Γ) (d:Sl) (a:Option Nat) (R:VR) (F:PH):Prop:=Nb F (Y4 c 31) λe F=>Nb F (Y4 zD 31) λf F=>Lp 0 F λN b F=>zk N a e f d R b F
theorem Vw {b:Γ} {c:Sl} {a:Option Nat} (h:Qo b c a R F):ν 67 #[Y9 b,Y7 c,.map a] F R:=Rx.Λ (.Y2 (.J Y6 [] (.Y2 (.L [(11,.int .i64)] (.Y2 (.Y2 (.J Y6 [] (.Y2 (.J Y6 [(22,.bool)] .N .N)) .N))))) .N)) h
def Fp (i:Ψ) (h:Θ) (j:Nat) (R:VR) (F:PH):Prop:=aF prog (Instr.next (Pp j) Y6 0) F λv F=>∃d,v=(Zh d)/\∃e,d[0]? =Y3 (Za e)/\Bb (e) (∃b,rdo prog (Instr.entry (Pp j)) F (Zh b)/\∃c,b[1]? =Y3 (Y9 c)/\Nb F (Y4 zD 31) λk F=>au F (Am k 0) 2 c λF=>∃a,h=Y3 a/\Lb F a λf=>Bb (f) (sto F a (Za Y8) λF=>i F) (Li F (Am k 1) λg=>sto F a (Za (decide (g≠0))) λF=>i F)) (R (Zh #[]) F)
def Qp (c d:Θ) (R:VR) (F:PH):Prop:=ν 59 #[Ze c] F λv F=>∃a:Option Nat,v=(.map a)/\aF prog (Instr.range 95 (.map a)) F λv F=>∃f:Nat,v=(Pp f)/\(∃(e:Nat->Ψ) (b:Nat),e b F/\∀b F,e b F-> Fp (λF=>∃g,g<b/\e g F) d f R F)
theorem Vx {a:Θ} {b:Θ} (h:Qp a b R F):ν 71 #[Ze a,Ze b] F R:=Rx.Λ (.Y2 (.L [] .N)) h
def Fq (d:Ω) (_:Addr) (_:Θ) (_:Nat) (_:Sl) (a:Int) (_:VR) (F:PH):Prop:=d (i64.wrap (a+1)) F
def Fs (l:Ω) (b:Addr) (i:Θ) (m j:Nat) (e:Sl) (f:Int) (R:VR) (F:PH):Prop:=∃a,i=Y3 a/\Ls F a λd=>Ls F (Zb b 3) λc=>Cs 53 #[.map (Y3 j),(vi (c.len:Int))] F λg F=>F.cell (Zb b 3)=Y3 (Y7 c)/\F.cell a=Y3 (Y7 d)/\Nb F (Y4 #[Y7 g] 39) λk F=>Ap 46 #[Y7 d,Y7 (Sb k 1)] F λh F=>F.cell (Zb b 3)=Y3 (Y7 c)/\sto F a (Y7 h) λF=>Fq l b (Y3 a) m e f R F
def zl (k l:Ω) (d:Addr) (i:Θ) (j:Nat) (b:Int) (e:Nat) (f g:Sl) (R:VR) (a:Int) (F:PH):Prop:=Bc (a<(g.len:Int)) (∃c:Option Nat,F.cell (Am j 0)=Y3 (.map c)/\Ca 75 #[.map c,Y9 (#[(vi b),(vi a)]:Γ)] F λh F=>aF prog (Instr.mapUpdate 95 (.map (Y3 e)) (vi a) (Y9 h)) F λ_ F=>l (i64.wrap (a+1)) F) (Fs k d i j e f b R F)
def zn (j:Ω) (a:Addr) (g:Θ) (k:Nat) (b:Sl) (R:VR) (c:Int) (F:PH):Prop:=Bc (c<(b.len:Int)) (Nb F (.map #[] 0) λh F=>Ls F (Zb a 3) λe=>(∃(i:Nat->Ω) (f:Nat),i f 0 F/\∀f d F,i f d F-> zl j (nx1 i f) a g k c h b e R d F)) (R (Zh #[]) F)
def Qq (k e l:Θ) (R:VR) (F:PH):Prop:=Nb F (Y4 #[Ze k] 93) λm F=>Lq F (Am m 0) λf=>ν 54 #[Ze f,Za Y8] F λv F=>∃b:Option Nat,v=(.map b)/\Nb F (Y4 (#[.map Y5]) 95) λo F=>sto F (Am o 0) (.map b) λF=>Lq F (Am m 0) λg=>ν 54 #[Ze g,Za Y6] F λv F=>∃c:Option Nat,v=(.map c)/\Nb F (Y4 (#[.map Y5]) 95) λp F=>sto F (Am p 0) (.map c) λF=>Nb F (.map #[] 0) λn F=>Nb F (Y4 (#[.map Y5]) 113) λj F=>sto F (Am j 0) (.map (Y3 n)) λF=>∃d:Option Nat,F.cell (Am j 0)=Y3 (.map d)/\Cu 73 #[.map d,.func (.func 74) #[] #[Ze e,(Pp m),(Pp p),(Pp j),(Pp o)]] F λF=>∃a,e=Y3 a/\Ls F (Zb a 4) λh=>Lp 0 F λN i F=>zn N a l j h R i F
theorem Vy {a:Θ} {b:Θ} {c:Θ} (h:Qq a b c R F):ν 72 #[Ze a,Ze b,Ze c] F R:=Rx.Λ (.Y2 (.Y2 (.Y2 (.Y2 (.Y2 (.Y2 (.L [(21,.int .i64)] (.Y2 (.Y2 (.J Y6 [(2,.ptr)] (.Y2 (.Y2 (.J Y6 [] (.Y2 (.L [(28,.int .i64)] .N)) .N))) .N)))))))))) h
def Ft (i:Θ->Ψ) (c:ξ) (j:Nat) (R:VR) (b:Θ) (F:PH):Prop:=∃a,b=Y3 a/\Lb F a λg=>Bb (g) (sto F a (Za Y6) λF=>Fn c λk e f=>ai prog k (e++([(Value.func (.func 125) #[] #[(Pp j),(Ze (Y3 a))])]).toArray++f) F λv F=>v=(Zh #[])/\Lb F a λh=>Nb F (Y4 (#[Za Y6]) 4) λd F=>sto F (Am d 0) (Za h) λF=>i (Y3 (Am d 0)) F) (R (Zh #[]) F)
def Qr (c:Option Nat) (b:ξ) (R:VR) (F:PH):Prop:=Nb F (Y4 #[.map c] 113) λg F=>Nb F (Y4 (#[Za Y6]) 4) λf F=>sto F (Am f 0) (Za Y8) λF=>(∃(e:Nat->Θ->Ψ) (d:Nat),e d (Y3 (Am f 0)) F/\∀d a F,e d a F-> Ft (nx1 e d) b g R a F)
theorem Vz {b:Option Nat} {a:ξ} (h:Qr b a R F):ν 73 #[.map b,a] F R:=Rx.Λ (.Y2 (.Y2 (.L [(4,.ptr)] .N))) h
def qF (e:Ω) (_:ξ) (_:Addr) (_ _ _ _:Θ) (_:Sl) (a:Int) (_:VR) (F:PH):Prop:=e (i64.wrap (a+1)) F
def Fu (_ g:Ω) (_:ξ) (_:Addr) (_ _ _ _:Θ) (_:Nat) (_:Θ) (_:Sl) (_:Int) (_:Sl) (a:Int) (_:VR) (F:PH):Prop:=g (i64.wrap (a+1)) F
def Fv (u w:Ω) (g:ξ) (h:Addr) (p q r s:Θ) (x:Nat) (a:Addr) (t:Nat) (i:Sl) (j:Int) (k:Sl) (l:Int) (R:VR) (F:PH):Prop:=Lr F 2 a λd=>∃c,s=Y3 c/\∃e:Option Nat,F.cell c=Y3 (.map e)/\Li F (Am t 1) λm=>Ca 66 #[.map e,(vi m)] F λn F=>F.row a d/\ν 35 #[Y9 d,Y9 n] F λv F=>∃f,∃b,v=(Zh #[Y9 f,(vi b)])/\Ca 65 #[Y9 f,(vi b)] F λo F=>au F a 2 o λF=>Fu u w g h p q r (Y3 c) x (Y3 a) i j k l R F
def vj (_ _ j:Ω) (_:ξ) (_:Addr) (_ _ _ _:Θ) (_:Nat) (_:Addr) (_:Nat) (_:Sl) (_:Int) (_:Sl) (_:Int) (_:Sl) (a:Int) (_:VR) (F:PH):Prop:=j (i64.wrap (a+1)) F
def zo (E G I:Ω) (a:ξ) (g:Addr) (p q x r:Θ) (s:Nat) (c:Addr) (m:Nat) (h:Sl) (i:Int) (j:Sl) (k:Int) (l:Sl) (R:VR) (b:Int) (F:PH):Prop:=Bc (b<(l.len:Int)) (∃d,x=Y3 d/\∃n:Option Nat,F.cell d=Y3 (.map n)/\Li F (Am m 1) λy=>Ca 75 #[.map n,Y9 (#[(vi y),(vi b)]:Γ)] F λz F=>Nb F (Y4 zD 31) λt F=>au F (Am t 0) 2 z λF=>Li F (Am t 1) λA=>Bc (A≠0) (Li F (Am s 1) λe=>Lr F 2 c λB=>Lr F 2 (Am t 0) λC=>ν 35 #[Y9 B,Y9 C] F λv F=>∃o,∃f,v=(Zh #[Y9 o,(vi f)])/\F.cell (Am s 1)=Y3 (vi e)/\Ca 65 #[Y9 o,(vi f)] F λD F=>F.cell (Am s 1)=Y3 (vi e)/\Fn a λH u w=>ai prog H (u++([(Y9 (#[(vi e),(vi b)]:Γ)),(Y9 D)]).toArray++w) F λv F=>v=(Zh #[])/\F.cell (Am s 1)=Y3 (vi e)/\vj E G I a g p q (Y3 d) r s c m h i j k l b R F) (vj E G I a g p q (Y3 d) r s c m h i j k l b R F)) (Fv E G a g p q x r s c m h i j k R F)
def zp (y E:Ω) (a:ξ) (b:Addr) (h i j k:Θ) (D:Nat) (A:Θ) (c:Sl) (d:Int) (g:Sl) (R:VR) (e:Int) (F:PH):Prop:=Bc (e<(g.len:Int)) (Ix g e λp=>Lr F 2 (Zb p (Zd e*2)) λq=>Nb F (Y4 (#[Za Y6,vi 0]) 63) λl F=>au F (Am l 0) 2 q λF=>∃f,A=Y3 f/\Li F (Zb f 1) λr=>Bc (r=0) (qF y a b h i j k c d R F) (Lb F (Am l 0) λs=>Bb (s) (Li F (Am D 1) λt=>Li F (Am l 1) λu=>Lr F 2 f λw=>Fn a λB n o=>ai prog B (n++([(Y9 (#[(vi t),(vi u)]:Γ)),(Y9 w)]).toArray++o) F λv F=>v=(Zh #[])/\qF y a b h i j k c d R F) (Ls F (Zb b 3) λx=>(∃(C:Nat->Ω) (z:Nat),C z 0 F/\∀z m F,C z m F-> zo y E (nx1 C z) a b h i j k D f l c d g e x R m F)))) (qF y a b h i j k c d R F)
def vk (o:Ω) (b:ξ) (c:Addr) (h i j k:Θ) (n:Nat) (d:Sl) (e:Int) (l:Θ) (R:VR) (F:PH):Prop:=Ls F (Am n 2) λf=>(∃(m:Nat->Ω) (g:Nat),m g 0 F/\∀g a F,m g a F-> zp o (nx1 m g) b c h i j k n l d e f R a F)
def zq (x:Ω) (f:ξ) (k:Addr) (v w o p:Θ) (d:Sl) (R:VR) (a:Int) (F:PH):Prop:=Bc (a<(d.len:Int)) (Ix d a λq=>Lr F 13 (Zb q (Zd a*13)) λr=>Nb F (Y4 zP 55) λu F=>au F (Am u 0) 13 r λF=>∃b,v=Y3 b/\Lq F b λg=>∃c,g=Y3 c/\Ls F (Zb c 9) λh=>Ix h a λs=>Lr F 2 (Zb s (Zd a*2)) λl=>Ls F (Am u 2) λm=>∃e,w=Y3 e/\∃i:Option Nat,F.cell e=Y3 (.map i)/\((Ca 67 #[Y9 l,Y7 m,.map i] F λt F=>F.cell (Zb c 9)=Y3 (Y7 h)/\F.cell b=Y3 (Ze g)/\Nb F (Y4 zD 31) λy F=>au F (Am y 0) 2 t λF=>vk x f k (Y3 b) (Y3 e) o p u d a (Y3 (Am y 0)) R F)/\(Nb F (Y4 zD 31) λn F=>Ca 67 #[Y9 l,Y7 m,.map i] F λj F=>F.cell (Zb c 9)=Y3 (Y7 h)/\F.cell b=Y3 (Ze g)/\au F (Am n 0) 2 j λF=>vk x f k (Y3 b) (Y3 e) o p u d a (Y3 (Am n 0)) R F))) (R (Zh #[]) F)
def Qt (b:ξ) (e f g h i:Θ) (R:VR) (F:PH):Prop:=∃a,e=Y3 a/\Ls F (Zb a 5) λc=>Lp 0 F λN d F=>zq N b a f g h i c R d F
theorem VA {a:ξ} {b:Θ} {c:Θ} {d:Θ} {e:Θ} {f:Θ} (h:Qt a b c d e f R F):ν 74 #[a,Ze b,Ze c,Ze d,Ze e,Ze f] F R:=Rx.Λ (.Y2 (.Y2 (.L [(17,.int .i64)] (.Y2 (.Y2 (.J Y6 [] (.Y2 (.J Y6 [(2,.ptr),(3,.ptr),(9,.ptr)] .N (.Y2 (.L [(36,.int .i64)] (.Y2 (.Y2 (.J Y6 [(5,.ptr),(9,.ptr)] (.Y2 (.Y2 (.Y2 (.J Y6 [] (.Y2 (.L [(56,.int .i64)] (.Y2 (.Y2 (.J Y6 [(4,.ptr)] .N .N))))) .N)))) .N))))))) .N)))))) h
def NZ (b:Option Nat) (g:Γ) (R:VR) (F:PH):Prop:=Nb F (Y4 g 115) λj F=>Nb F (Y4 zD 31) λf F=>Lr F 2 (Am j 0) λh=>∃(c:Γ) (a:Bool),rdo prog (Instr.lookup 113 (.map b) (Y9 h) Y8) F (Zh #[Y9 c,Za a])/\Nb F (Y4 zD 31) λi F=>au F (Am i 0) 2 c λF=>Bb (a) (Lr F 2 (Am i 0) λd=>au F (Am f 0) 2 d λF=>Rr 2 (Am f 0) R F) (Ca 27 #[Za Y6] F λe F=>au F (Am f 0) 2 e λF=>Rr 2 (Am f 0) R F)
theorem Qu {a:Option Nat} {b:Γ} (h:NZ a b R F):ν 75 #[.map a,Y9 b] F R:=Rx.Λ .N h
def o7 (e:Ω) (_:ξ) (_:Addr) (_ _:Θ) (_:Sl) (a:Int) (_:VR) (F:PH):Prop:=e (i64.wrap (a+1)) F
def Bx (u:Ω) (c:ξ) (b:Addr) (q r:Θ) (d:Int) (s:Nat) (l:Sl) (R:VR) (F:PH):Prop:=Li F (Am s 1) λh=>Lq F b λe=>∃a,e=Y3 a/\Ls F (Zb a 9) λf=>Ix f d λm=>Lr F 2 (Zb m (Zd d*2)) λn=>Ls F (Am s 2) λo=>∃g,r=Y3 g/\∃i:Option Nat,F.cell g=Y3 (.map i)/\Ca 67 #[Y9 n,Y7 o,.map i] F λp F=>F.cell (Zb a 9)=Y3 (Y7 f)/\F.cell b=Y3 (Ze e)/\F.cell (Am s 1)=Y3 (vi h)/\Fn c λt j k=>ai prog t (j++([(vi h),(Y9 p)]).toArray++k) F λv F=>v=(Zh #[])/\F.cell (Zb a 9)=Y3 (Y7 f)/\F.cell b=Y3 (Ze e)/\o7 u c b q (Y3 g) l d R F
def o8 (_ g:Ω) (_:ξ) (_:Addr) (_ _:Θ) (_:Int) (_:Nat) (_ _:Sl) (a:Int) (_:VR) (F:PH):Prop:=g (i64.wrap (a+1)) F
def vl (n p:Ω) (a:ξ) (c:Addr) (i h:Θ) (d:Int) (o:Nat) (e f:Sl) (R:VR) (b:Int) (F:PH):Prop:=Bc (b<(f.len:Int)) (Ix f b λj=>Lr F 2 (Zb j (Zd b*2)) λk=>Nb F (Y4 (#[Za Y6,vi 0]) 63) λq F=>au F (Am q 0) 2 k λF=>Lb F (Am q 0) λl=>Bb (l) (∃g,i=Y3 g/\Lb F g λm=>Bb (m) (o7 n a c (Y3 g) h e d R F) (o8 n p a c (Y3 g) h d o e f b R F)) (o8 n p a c i h d o e f b R F)) (Bx n a c i h d o e R F)
def vm (n:Ω) (d:ξ) (e:Addr) (j k:Θ) (b:Sl) (R:VR) (a:Int) (F:PH):Prop:=Bc (a<(b.len:Int)) (Ix b a λf=>Lr F 13 (Zb f (Zd a*13)) λg=>Nb F (Y4 zP 55) λl F=>au F (Am l 0) 13 g λF=>Ls F (Am l 2) λh=>(∃(m:Nat->Ω) (i:Nat),m i 0 F/\∀i c F,m i c F-> vl n (nx1 m i) d e j k a l b h R c F)) (R (Zh #[]) F)
def Lz (c:ξ) (f g h:Θ) (R:VR) (F:PH):Prop:=∃a,f=Y3 a/\Lq F a λi=>∃b,i=Y3 b/\Ls F (Zb b 5) λd=>Lp 0 F λN e F=>vm N c a g h d R e F
theorem Qv {a:ξ} {b:Θ} {c:Θ} {d:Θ} (h:Lz a b c d R F):ν 113 #[a,Ze b,Ze c,Ze d] F R:=Rx.Λ (.Y2 (.Y2 (.L [(15,.int .i64)] (.Y2 (.Y2 (.J Y6 [(2,.ptr),(3,.ptr)] (.Y2 (.J Y6 [] (.Y2 (.L [(23,.int .i64)] (.Y2 (.Y2 (.J Y6 [(2,.ptr)] .N .N))))) .N)) .N)))))) h
def pc (d:Ω) (_:Int) (_ _ _:Θ) (_:Nat) (_:Sl) (a:Int) (_:VR) (F:PH):Prop:=d (i64.wrap (a+1)) F
def iv (t:Ω) (b:Int) (d:Addr) (j k:Θ) (u:Nat) (f:Int) (r:Nat) (g:Sl) (h:Int) (e:Θ) (R:VR) (F:PH):Prop:=Lr F 2 (Am r 0) λl=>∃a,e=Y3 a/\Lr F 2 a λm=>Cbo 31 #[Y9 l,Y9 m] F λn F=>Bb ((!n)) (∃i:Option Nat,F.cell d=Y3 (.map i)/\Lr F 2 a λo=>aF prog (Instr.mapUpdate 95 (.map i) (vi f) (Y9 o)) F λ_ F=>∃c,k=Y3 c/\Ls F c λp=>Nb F (Y4 #[(vi f)] 3) λs F=>Ap 67 #[Y7 p,Y7 (Sb s 1)] F λq F=>sto F c (Y7 q) λF=>pc t b (Y3 d) j (Y3 c) u g h R F) (pc t b (Y3 d) j k u g h R F)
def vn (N:Ω) (c:Int) (T U t:Θ) (M:Nat) (g:Sl) (R:VR) (e:Int) (F:PH):Prop:=Bc (e<(g.len:Int)) (Ix g e λO=>Li F (Zb O (Zd e*1)) λh=>∃i,T=Y3 i/\∃J:Option Nat,F.cell i=Y3 (.map J)/\Ca 66 #[.map J,(vi h)] F λP F=>Nb F (Y4 zD 31) λf F=>au F (Am f 0) 2 P λF=>Lr F 2 (Am f 0) λd=>Lr F 2 (Am M 0) λK=>∃a,U=Y3 a/\∃b:Option Nat,F.cell a=Y3 (.map b)/\∃u,rdo prog (Instr.lookup 113 (.map b) (Y9 (#[(vi c),(vi h)]:Γ)) Y6) F (Y9 u)/\((ν 35 #[Y9 K,Y9 u] F λv F=>∃w,∃j,v=(Zh #[Y9 w,(vi j)])/\F.cell a=Y3 (.map b)/\F.row (Am f 0) d/\((Ca 65 #[Y9 w,(vi j)] F λL F=>F.cell a=Y3 (.map b)/\F.row (Am f 0) d/\((ν 28 #[Y9 d,Y9 L] F λv F=>∃x,∃k,v=(Zh #[Y9 x,(vi k)])/\F.cell a=Y3 (.map b)/\((Ca 65 #[Y9 x,(vi k)] F λQ F=>F.cell a=Y3 (.map b)/\Nb F (Y4 zD 31) λS F=>au F (Am S 0) 2 Q λF=>iv N c i (Y3 a) t M h f g e (Y3 (Am S 0)) R F)/\(Nb F (Y4 zD 31) λy F=>Ca 65 #[Y9 x,(vi k)] F λC F=>F.cell a=Y3 (.map b)/\au F (Am y 0) 2 C λF=>iv N c i (Y3 a) t M h f g e (Y3 (Am y 0)) R F)))/\(Nb F (Y4 zD 31) λz F=>ν 28 #[Y9 d,Y9 L] F λv F=>∃l,∃m,v=(Zh #[Y9 l,(vi m)])/\F.cell a=Y3 (.map b)/\Ca 65 #[Y9 l,(vi m)] F λD F=>F.cell a=Y3 (.map b)/\au F (Am z 0) 2 D λF=>iv N c i (Y3 a) t M h f g e (Y3 (Am z 0)) R F)))/\(Nb F (Y4 zD 31) λA F=>Ca 65 #[Y9 w,(vi j)] F λE F=>F.cell a=Y3 (.map b)/\F.row (Am f 0) d/\ν 28 #[Y9 d,Y9 E] F λv F=>∃n,∃o,v=(Zh #[Y9 n,(vi o)])/\F.cell a=Y3 (.map b)/\Ca 65 #[Y9 n,(vi o)] F λG F=>F.cell a=Y3 (.map b)/\au F (Am A 0) 2 G λF=>iv N c i (Y3 a) t M h f g e (Y3 (Am A 0)) R F)))/\(Nb F (Y4 zD 31) λB F=>ν 35 #[Y9 K,Y9 u] F λv F=>∃p,∃q,v=(Zh #[Y9 p,(vi q)])/\F.cell a=Y3 (.map b)/\F.row (Am f 0) d/\Ca 65 #[Y9 p,(vi q)] F λH F=>F.cell a=Y3 (.map b)/\F.row (Am f 0) d/\ν 28 #[Y9 d,Y9 H] F λv F=>∃r,∃s,v=(Zh #[Y9 r,(vi s)])/\F.cell a=Y3 (.map b)/\Ca 65 #[Y9 r,(vi s)] F λI F=>F.cell a=Y3 (.map b)/\au F (Am B 0) 2 I λF=>iv N c i (Y3 a) t M h f g e (Y3 (Am B 0)) R F))) (R (Zh #[]) F)
def LA (a:Int) (f:Γ) (g h i j:Θ) (R:VR) (F:PH):Prop:=Nb F (Y4 f 31) λk F=>∃b,g=Y3 b/\∃c:Option Nat,F.cell b=Y3 (.map c)/\∃d,rdo prog (Instr.lookup 164 (.map c) (vi a) Y6) F (Y7 d)/\Lp 0 F λN e F=>vn N a h i j k d R e F
theorem Qw {a:Int} {b:Γ} {c:Θ} {d:Θ} {e:Θ} {f:Θ} (h:LA a b c d e f R F):ν 121 #[(vi a),Y9 b,Ze c,Ze d,Ze e,Ze f] F R:=Rx.Λ (.Y2 (.Y2 (.L [(16,.int .i64)] (.Y2 (.Y2 (.J Y6 [(3,.ptr),(5,.ptr)] (.Y2 (.Y2 (.J Y6 [(4,.ptr),(11,.ptr)] .N .N))) .N)))))) h
def LB (g:Int) (p:Γ) (q r:Θ) (R:VR) (F:PH):Prop:=Nb F (Y4 p 31) λw F=>Li F (Am w 1) λs=>Bc (s=0) (R (Zh #[]) F) (∃b,q=Y3 b/\∃c:Option Nat,F.cell b=Y3 (.map c)/\Ca 66 #[.map c,(vi g)] F λh F=>Nb F (Y4 zD 31) λt F=>au F (Am t 0) 2 h λF=>Lr F 2 (Am t 0) λi=>Lr F 2 (Am w 0) λj=>ν 28 #[Y9 i,Y9 j] F λv F=>∃d,∃a,v=(Zh #[Y9 d,(vi a)])/\Ca 65 #[Y9 d,(vi a)] F λk F=>Nb F (Y4 zD 31) λu F=>au F (Am u 0) 2 k λF=>Lr F 2 (Am t 0) λl=>Lr F 2 (Am u 0) λm=>Cbo 31 #[Y9 l,Y9 m] F λn F=>Bb ((!n)) (∃e:Option Nat,F.cell b=Y3 (.map e)/\Lr F 2 (Am u 0) λo=>aF prog (Instr.mapUpdate 95 (.map e) (vi g) (Y9 o)) F λ_ F=>∃f,r=Y3 f/\sto F f (Za Y8) λF=>R (Zh #[]) F) (R (Zh #[]) F))
theorem Qx {a:Int} {b:Γ} {c:Θ} {d:Θ} (h:LB a b c d R F):ν 124 #[(vi a),Y9 b,Ze c,Ze d] F R:=Rx.Λ .N h
def LC (q r:Γ) (s t:Θ) (R:VR) (F:PH):Prop:=Nb F (Y4 q 115) λy F=>Nb F (Y4 r 31) λz F=>Li F (Am z 1) λu=>Bc (u=0) (R (Zh #[]) F) (∃b,s=Y3 b/\∃c:Option Nat,F.cell b=Y3 (.map c)/\Lr F 2 (Am y 0) λg=>Ca 75 #[.map c,Y9 g] F λh F=>Nb F (Y4 zD 31) λw F=>au F (Am w 0) 2 h λF=>Lr F 2 (Am w 0) λi=>Lr F 2 (Am z 0) λj=>ν 28 #[Y9 i,Y9 j] F λv F=>∃d,∃a,v=(Zh #[Y9 d,(vi a)])/\Ca 65 #[Y9 d,(vi a)] F λk F=>Nb F (Y4 zD 31) λx F=>au F (Am x 0) 2 k λF=>Lr F 2 (Am w 0) λl=>Lr F 2 (Am x 0) λm=>Cbo 31 #[Y9 l,Y9 m] F λn F=>Bb ((!n)) (∃e:Option Nat,F.cell b=Y3 (.map e)/\Lr F 2 (Am y 0) λo=>Lr F 2 (Am x 0) λp=>aF prog (Instr.mapUpdate 113 (.map e) (Y9 o) (Y9 p)) F λ_ F=>∃f,t=Y3 f/\sto F f (Za Y8) λF=>R (Zh #[]) F) (R (Zh #[]) F))
theorem Qy {a:Γ} {b:Γ} {c:Θ} {d:Θ} (h:LC a b c d R F):ν 125 #[Y9 a,Y9 b,Ze c,Ze d] F R:=Rx.Λ .N h
section
variable {κ:Type} {enc:κ->ξ} {G G0 G1 F:PH} {As:List (Ψ)} {m:Nat} {S S':κ->Tr} {mp mp':κ->Option ξ}
def jl (G:PH) (S:κ->Tr) (mp:κ->Option ξ):Prop:=∀n,(mp n=Y5/\S n=Y0 Y6)\/∃w,mp n=Y3 (Y9 w)/\DV G w (dia (S n))
theorem jl.le (h:jl G0 S mp) (l:G0.le G):jl G S mp:=λn=>(h n).imp id λ⟨w,h1,h2⟩=>⟨w,h1,h2.le l⟩
theorem jl.empty (G:PH):jl G (λ_:κ=>Y0 Y6) (λ_=>Y5):=λ_=> .inl ⟨rfl,rfl⟩
variable [DecidableEq κ]
theorem jl.put (h:jl G S mp) {n:κ} {w:Γ} {t:Tr} (hd:DV G w (dia t)):jl G (dx S n t) (λk=>if k=n then Y3 (Y9 w) else mp k):=λk=>by
 unfold dx;dsimp only;by_cases e:k=n
 ·rw [Χ e,Χ e];exact .inr ⟨w,rfl,hd⟩
 ·rw [Υ e,Υ e];exact h k
def mS (enc:κ->ξ) (G:PH) (m:Nat) (S:κ->Tr):Ψ:=λH=>∃o mp,H m=Y3 o/\eJ enc mp o/\jl G S mp
theorem St.mS_at (h:St G F As) {i:Nat} (hi:As[i]? =Y3 (mS enc G0 m S)):∃o mp,F m=Y3 o/\eJ enc mp o/\jl G0 S mp:=by obtain ⟨H,⟨o,mp,h1,h2,h3⟩,_,h4⟩:=h.get hi;exact ⟨o,mp,h4 _ _ h1,h2,h3⟩
theorem St.mS_set (h:St G F As) (i:Nat) (hi:As[i]? =Y3 (mS enc G0 m S)) {o':Obj} (ho:eJ enc mp' o') (hs:jl G1 S' mp'):St G (F.set m o') (As.set i (mS enc G1 m S')):=by
 obtain ⟨H,⟨o,mp,a1,_,_⟩,a2,a3,a4⟩:=h.set (A':=mS enc G1 m S') hi;refine a4 (H.set m o') _ ⟨o',mp',al _ _ _,ho,hs⟩ (λx hx=> ?_) (λx p hx=> ?_) (λx p hx hn=> ?_)
 ·by_cases e:x=m
  ·rw [e,a1];exact .inl (by simp)
  ·rw [az _ _ e] at hx;exact .inl hx
 ·by_cases e:x=m
  ·rw [e,al] at hx ⊢;exact hx
  ·rw [az _ _ e] at hx ⊢;exact a3 _ _ hx
 ·have e:x≠m:=λe=>by rw [e,a1] at hn;cases hn
  rw [az _ _ e];exact hx
end
theorem xA:gj prog 95 aH (.agg zD):=⟨_,_,underlying95,HQ,JK⟩
theorem Fw:gj prog 113 bT (.agg zD):=⟨_,_,underlying113,HQ,Wl⟩
theorem bx {F:PH} {w:Γ} {d:Dia} (hd:DV F w d):ν 65 #[Y9 w,vi 0] F λr F'=>r=Y9 w/\F.le F':=by refine Vu ?_;unfold Qm;refine fresh λb2 F1 l1 q2 _=> ?_;refine (St.start F1).new λb4 F2 h=>⟨λhc=>absurd rfl hc,λ_=>⟨w,hd.size,ac (h.le _ _ q2),?_⟩⟩;refine h.put0 (w':=w) hd.size rfl hd.st λF3 h=>⟨w,hd.size,ac (h.ptAt (i:=0) rfl),rfl,aa l1 h.le⟩
section
variable {G G0 F:PH} {As:List (Ψ)} {m:Nat} {k:Nat}
theorem fo {S:Int->Tr} (h:St G F (mS aH G0 m S::As)) (l0:G0.le G) (n:Int):
  ν 66 #[.map (Y3 m),vi n] F λr F'=>∃G' w,r=Y9 w/\DV G' w (dia (S n))/\G.le G'/\St G' F' (mS aH G0 m S::As):=by
 refine Vv ?_;unfold Qn;refine h.new λb4 F1 h=> ?_;obtain ⟨o,mp,h1,h2,h3⟩:=h.mS_at (i:=1) rfl;have hlk:=bJ (F:=F1) xA h1 h2 n Y8;rcases h3 n with ⟨e1,e2⟩|⟨w,e1,e2⟩
 ·rw [e1] at hlk;refine ⟨_,_,hlk,?_⟩;refine h.new λb5 F2 h=> ?_;refine h.put0 (w':=zD) rfl rfl (by simp [ak]) λF3 h=>⟨λhc=>(by cases hc),λ_=> ?_⟩;refine (h.call (fg Y6)).mono ?_;rintro _ F4 ⟨G',⟨w,rfl,hw,l1⟩,h⟩;refine ⟨w,rfl,?_⟩;refine h.put1 (w':=w) hw.size rfl hw.st λF5 h=>⟨w,hw.size,ac (h.ptAt (i:=1) rfl),?_⟩;exact ⟨G',w,rfl,by rw [e2];exact hw,l1,h.tail.tail⟩
 ·rw [e1] at hlk;refine ⟨_,_,hlk,?_⟩;have hw:=e2.le l0;refine h.new λb5 F2 h=> ?_;refine h.put0 (w':=w) hw.size rfl hw.st λF3 h=>⟨λ_=>⟨w,hw.size,ac (h.ptAt (i:=0) rfl),?_⟩,λhc=>(by cases hc)⟩;refine h.put1 (w':=w) hw.size rfl hw.st λF5 h=>⟨w,hw.size,ac (h.ptAt (i:=1) rfl),?_⟩;exact ⟨G,w,rfl,hw,am _,h.tail.tail⟩
theorem qG {S:Int×Int->Tr} (h:St G F (mS bT G0 m S::As)) (l0:G0.le G) (n:Int×Int):
  ν 75 #[.map (Y3 m),Y9 (wx n)] F λr F'=>∃G' w,r=Y9 w/\DV G' w (dia (S n))/\G.le G'/\St G' F' (mS bT G0 m S::As):=by
 refine Qu ?_;unfold NZ;refine h.new λb3 Fa h=> ?_;refine h.new λb4 F1 h=> ?_;refine ⟨_,rfl,ac (h.ptAt (i:=1) rfl),?_⟩;obtain ⟨o,mp,h1,h2,h3⟩:=h.mS_at (i:=2) rfl;have hlk:=bJ (F:=F1) Fw h1 h2 n Y8;rcases h3 n with ⟨e1,e2⟩|⟨w,e1,e2⟩
 ·rw [e1] at hlk;refine ⟨_,_,hlk,?_⟩;refine h.new λb5 F2 h=> ?_;refine h.put0 (w':=zD) rfl rfl (by simp [ak]) λF3 h=>⟨λhc=>(by cases hc),λ_=> ?_⟩;refine (h.call (fg Y6)).mono ?_;rintro _ F4 ⟨G',⟨w,rfl,hw,l1⟩,h⟩;refine ⟨w,rfl,?_⟩;refine h.put1 (w':=w) hw.size rfl hw.st λF5 h=>⟨w,hw.size,ac (h.ptAt (i:=1) rfl),?_⟩;exact ⟨G',w,rfl,by rw [e2];exact hw,l1,h.tail.tail.tail⟩
 ·rw [e1] at hlk;refine ⟨_,_,hlk,?_⟩;have hw:=e2.le l0;refine h.new λb5 F2 h=> ?_;refine h.put0 (w':=w) hw.size rfl hw.st λF3 h=>⟨λ_=>⟨w,hw.size,ac (h.ptAt (i:=0) rfl),?_⟩,λhc=>(by cases hc)⟩;refine h.put1 (w':=w) hw.size rfl hw.st λF5 h=>⟨w,hw.size,ac (h.ptAt (i:=1) rfl),?_⟩;exact ⟨G,w,rfl,hw,am _,h.tail.tail.tail⟩
theorem vo {a b:Tr} {u w:Γ} (hk:k<=6) (ha:Sx k a) (hb:Sx k b) (hu:DV F u (dia a)) (hw:DV F w (dia b)):
  ν 28 #[Y9 u,Y9 w] F λr F'=>∃x,r=Zh #[Y9 x,vi 0]/\DV F' x (dia (ap2 oOr a b))/\F.le F':=by
 refine (JA hu hw).mono ?_;rintro r F' ⟨⟨x,rfl,hx⟩,l⟩;rw [FO (ha.small hk) (hb.small hk) ((ha.ap2 (o:=oOr) hb).small hk) (bq ha.1 hb.1).2] at hx ⊢;exact ⟨x,rfl,hx,l⟩
theorem iw {a b:Tr} {u w:Γ} (hk:k<=6) (ha:Sx k a) (hb:Sx k b) (hu:DV F u (dia a)) (hw:DV F w (dia b)):
  ν 35 #[Y9 u,Y9 w] F λr F'=>∃x,r=Zh #[Y9 x,vi 0]/\DV F' x (dia (ap2 aY a b))/\F.le F':=by
 refine (FJ hu hw).mono ?_;rintro r F' ⟨⟨x,rfl,hx⟩,l⟩;rw [FO (ha.small hk) (hb.small hk) ((ha.ap2 (o:=aY) hb).small hk) (bq ha.1 hb.1).2] at hx ⊢;exact ⟨x,rfl,hx,l⟩
theorem fq {t:Tr} (h:t.ok):(dia t).2=0↔t=Y0 Y6:=by
 refine ⟨λhe=> ?_,λhe=>by rw [he];rfl⟩;have h0:num (bi t) t=0:=by have:((num (bi t) t:Nat):Int)=0:=he;omega
 have hl:=qp (S:=bi t) (t:=t) (by omega);cases t with
 |Y1 _ _ _=>cases hl
 |Y0 b=>
  cases b with
  |false=>rfl
  |true=>cases h0
theorem vp {a:Tr} (ha:a.ok):ap2 oOr a (Y0 Y6)=a:=eQ (bq ha (b:=Y0 Y6) trivial).1 ha λc=>by rw [(bq ha (b:=Y0 Y6) trivial).2];exact YT _
theorem dy {κ:Type} [DecidableEq κ] {S:κ->Tr} (hS:Sxs k S) (n:κ):bo S n (Y0 Y6)=S:=by unfold bo;rw [vp (hS n).1,mX]
theorem jH {κ:Type} [DecidableEq κ] {S:κ->Tr} {n:κ} {d:Tr}:bo S n d=S↔ap2 oOr (S n) d=S n:=by
 constructor
 ·intro h;have:=congrFun h n;unfold bo dx at this;rwa [Χ rfl] at this
 ·intro h;unfold bo;rw [h,mX]
theorem tK {S:Int->Tr} {b2 b4:Nat} {ch:Bool} {w:Γ} {d:Tr} (h:St G F (mS aH G0 m S::pt b4 (Y4 #[Za ch] 4)::As)) (l0:G0.le G) (hk:k<=6) (hS:Sxs k S) (hx:Sx k d) (hd:DV G w (dia d))
  (h2:G.cell ⟨b2,0,Y5⟩=Y3 (.map (Y3 m))) (n:Int):
  ν 124 #[vi n,Y9 w,Ze (Y3 ⟨b2,0,Y5⟩),Ze (Y3 ⟨b4,0,Y5⟩)] F λr F'=>∃G' ch',r=Zh #[]/\(ch'=Y8↔ch=Y8\/bo S n d≠S)/\G.le G'/\
   St G' F' (mS aH G' m (bo S n d)::pt b4 (Y4 #[Za ch'] 4)::As):=by
 refine Qx ?_;unfold LB;have up:∀{G1 G2 F':PH} {S':Int->Tr} {As':List (Ψ)},St G2 F' (mS aH G1 m S'::As')->G1.le G2->St G2 F' (mS aH G2 m S'::As'):=λ{G1 G2 F' S' As'} h l=>h.imp 0 rfl λH _ ⟨o,mp,a1,a2,a3⟩=>⟨o,mp,a1,a2,a3.le l⟩;obtain ⟨s,rfl,_⟩:=id hd;refine h.newG λb5 G1 F1 l1 q5 _ h=>⟨_,ld (h.le _ _ q5) rfl,λh0=> ?_,λh0=> ?_⟩
 ·have e:=(fq hx.1).1 h0;refine ⟨G1,ch,rfl,?_,l1,?_⟩
  ·rw [e,dy hS];simp
  ·rw [e,dy hS];exact up h (aa l0 l1)
 ·refine ⟨_,rfl,_,aI (aa l1 h.le) h2,?_⟩;refine (fo h (aa l0 l1) n).mono ?_;rintro _ F2 ⟨G2,u,rfl,hu,l2,h⟩;refine ⟨u,rfl,?_⟩;refine h.var hu.st (λb6 G3 F3 l3 q6 h=> ?_) rfl hu.size;have l13:=aa l2 l3;refine ⟨u,hu.size,ac (h.le _ _ q6),_,rfl,ac (h.le _ _ (l13 _ _ q5)),?_⟩;refine h.run (P:=λr G'=>∃x,r=Zh #[Y9 x,vi 0]/\DV G' x (dia (ap2 oOr (S n) d))) ((vo hk (hS n) hx (hu.le l3) (hd.le (aa l1 l13))).mono λr F' ⟨x,a,b,c⟩=>⟨⟨x,a,b⟩,c⟩) λ_ G4 F4 hr l4 h=> ?_;obtain ⟨x,rfl,hxx⟩:=hr;refine ⟨_,_,rfl,?_⟩;refine h.runv (bx hxx) λG5 F5 l5 h=>⟨_,rfl,?_⟩;refine h.var hxx.st (λb7 G6 F6 l6 q7 h=> ?_) rfl hxx.size;have l36:=aa l4 (aa l5 l6);refine ⟨u,hu.size,ac (h.le _ _ (l36 _ _ q6)),x,hxx.size,ac (h.le _ _ q7),?_⟩;refine h.runv (jU (hu.le (aa l3 l36)) (hxx.le (aa l5 l6)) (pI ((hS n).small hk))) λG7 F7 l7 h=>⟨_,rfl,?_⟩;have l17:=aa l13 (aa l36 l7);have kk:=(hS n).ap2 (o:=oOr) hx;refine ⟨λhne=> ?_,λhe=> ?_⟩
  ·have hne:ap2 oOr (S n) d≠S n:=λe=>by rw [e,ζ rfl] at hne;cases hne
   refine ⟨_,aI (aa (aa l1 l17) h.le) h2,x,hxx.size,ac (h.le _ _ (l7 _ _ q7)),?_⟩;obtain ⟨o,mp,m1,m2,m3⟩:=h.mS_at (i:=0) rfl;refine aV xA m1 m2 n (Y9 x) λo' ho'=> ?_;have hxx7:=hxx.le (aa l5 (aa l6 l7));have h:=h.mS_set 0 rfl (G1:=G7) (S':=bo S n d) ho' ((m3.le (aa (aa l0 l1) l17)).put hxx7);refine ⟨_,rfl,h.set1 (w':= #[Za Y8]) (Zn rfl) rfl λF8 h=> ?_⟩;exact ⟨G7,Y8,rfl,⟨λ_=> .inr λe=>hne (jH.1 e),λ_=>rfl⟩,aa l1 l17,h⟩
  ·have e:ap2 oOr (S n) d=S n:=by
    have:decide (dia (S n)=dia (ap2 oOr (S n) d))=Y8:=by simpa using he
    exact (mL (hS n).1 kk.1 (ε this)).symm
   have e2:=jH.2 e;refine ⟨G7,ch,rfl,?_,aa l1 l17,?_⟩
   ·rw [e2];simp
   ·rw [e2];exact up h (aa (aa l0 l1) l17)
end
theorem tL (S:Int->Tr) (s:Sy):∀(r:List Sy) (d:Tr),dG S d (r++[s])=if s.t=Y8 then dG S d r else ap2 aY (dG S d r) (S s.i)
 |[],d=>rfl
 |x::r,d=>by rw [XP];unfold dG;exact tL S s r _
theorem gJ {a:Tr} (ha:a.ok):ap2 aY (Y0 Y6) a=Y0 Y6:=eQ (bq (a:=Y0 Y6) trivial ha).1 trivial λc=>by rw [(bq (a:=Y0 Y6) trivial ha).2];rfl
theorem dz {α:Type} {r:List α} {i:Nat} {x:α} (h:r[i]? =Y3 x):r.take (i+1)=r.take i++[x]:=by rw [XL,h];rfl
section
variable {G G0 F:PH} {As:List (Ψ)} {m:Nat} {k:Nat}
theorem gR {S:Int->Tr} (h:St G F (mS aH G0 m S::As)) (l0:G0.le G) (hk:k<=6) (hS:Sxs k S) {d:Tr} {w:Γ} (hx:Sx k d) (hd:DV G w (dia d)) {sl:Sl} {r:List Sy} (hr:RL G sl r) (hl:r.length<=1000000):
  ν 67 #[Y9 w,sl.v,.map (Y3 m)] F λres F'=>∃G' u,res=Y9 u/\DV G' u (dia (dG S d r))/\G.le G'/\St G' F' (mS aH G0 m S::As):=by
 have elen:=hr.len;refine Vw ?_;unfold Qo;refine h.new λb3 F1 h=>h.new λb6 F2 h=> ?_;refine bh (zk · (Y3 m) b3 b6 sl _) r.length (λi F'=>∃(G':PH) (u:Γ),G.le G'/\DV G' u (dia (dG S d (r.take i)))/\St G' F' (pt b6 (Y4 zD 31)::pt b3 (Y4 u 31)::mS aH G0 m S::As)) ⟨G,w,am _,by rw [XY];exact hd,h⟩ ?_;rintro i F3 N hi ⟨G1,u,l1,hu,h⟩ next;unfold zk;obtain ⟨fx,_⟩:=bz hS (r.take i) hx;refine ⟨λhlt=> ?_,λhge=> ?_⟩
 ·have hlt:i<r.length:=by omega
  refine ixc ((hr.le l1).le h.le) (by decide) (by omega) (by omega) λa c s hs hrow hc=>⟨c,Mem.len hc,hrow,?_⟩;rw [N4] at hs;obtain rfl:c=s.arr:=hc;have et:=dz hs;have hsn:=tL S s (r.take i) d;refine h.var (by simp [ak]) (λb8 G2 F4 l2 q8 h=>⟨_,ld (h.le _ _ q8) rfl,?_⟩) rfl rfl;have fin:∀{G' F':PH} {u':Γ},G1.le G'->DV G' u' (dia (dG S d (r.take (i+1))))->St G' F' (pt b6 (Y4 zD 31)::pt b3 (Y4 u' 31)::mS aH G0 m S::As)->
    vf N (Y3 m) b3 b6 sl (i:Int) (λres F'=>∃G' u,res=Y9 u/\DV G' u (dia (dG S d r))/\G.le G'/\St G' F' (mS aH G0 m S::As)) F':=λ{G' F' u'} l hu' h=>by
   unfold vf;rw [aA hlt];exact next _ hlt ⟨G',u',aa l1 l,hu',h⟩
  refine ⟨λht=> ?_,λht=> ?_⟩
  ·have ht:s.t=Y6:=by simpa using ht
   rw [ht,Υ Ym] at hsn;obtain ⟨su,rfl,_⟩:=id hu;refine ⟨_,h.ld1 rfl,?_⟩;unfold vh;refine ⟨λhne=>⟨_,rfl,ac (h.ptAt (i:=1) rfl),_,ld (h.le _ _ q8) rfl,?_⟩,λhe=> ?_⟩
   ·refine (fo h.front2 (aa l0 (aa l1 l2)) s.i).mono ?_;rintro _ F5 ⟨G3,x,rfl,hxx,l3,h⟩;have h:=h.back2;have hu3:=hu.le (aa l2 l3);refine ⟨x,rfl,ac (h.ptAt (i:=1) rfl),?_⟩;refine h.run (P:=λr' G'=>∃y,r'=Zh #[Y9 y,vi 0]/\DV G' y (dia (ap2 aY (dG S d (r.take i)) (S s.i)))) ((iw hk fx (hS s.i) hu3 hxx).mono λr F' ⟨x,a,b,c⟩=>⟨⟨x,a,b⟩,c⟩) λ_ G4 F6 hr4 l4 h=> ?_;obtain ⟨y,rfl,hy⟩:=hr4;refine ⟨_,_,rfl,?_⟩;refine h.runv (bx hy) λG5 F7 l5 h=>⟨_,rfl,?_⟩;refine h.put1 (w':=y) hy.size rfl hy.st λF8 h=> ?_;refine fin (aa l2 (aa l3 (aa l4 l5))) ?_ h;rw [et,hsn];exact hy.le l5
   ·have e:dG S d (r.take i)=Y0 Y6:=(fq fx.1).1 (by simpa using he);refine fin l2 ?_ h;rw [et,hsn,e,gJ (hS _).1,<- e];exact hu.le l2
  ·have ht:s.t=Y8:=by simpa using ht
   rw [ht,Χ rfl] at hsn;unfold vh;refine ⟨λhc=>(by cases hc),λ_=>fin l2 ?_ h⟩;rw [et,hsn];exact hu.le l2
 ·have e:i=r.length:=by omega
  subst e;rw [Xg] at hu;unfold Fo;refine ⟨u,hu.size,ac (h.ptAt (i:=1) rfl),?_⟩;refine h.put0 (w':=u) hu.size rfl hu.st λF5 h=>⟨u,hu.size,ac (h.ptAt (i:=0) rfl),?_⟩;exact ⟨G1,u,rfl,hu,l1,h.tail.tail⟩
end
set_option maxRecDepth 100000
theorem Jo (p:Addr) (w:World):CallsD prog 112 #[Ze (Y3 p)] .returning w λe u' w'=>(∃v,e=.returned v)/\u'=.returning/\w'=w:=by refine callsD_of_wpS func112 rfl λc₀ cs hu=> ?_;apply wpS_seq;apply wpS_region;simp [wpOpsS,go_sem,recoverD,hu,ntmps112,Exit.thenS];apply wpS_seq;apply wpS_region;simp [wpOpsS,go_sem,Exit.thenS];refine wpS_cond (t:=Y6) (by simp [Act.eval,Array.replicate]) ?_;simp only [XE,if_false];refine wpS_of_wp (wp_skip ?_);cases c₀;simp_all [bodyPostS,results,results112]
theorem Jp (p:Addr):Av prog ⟨.fn (.func 112) #[Ze (Y3 p)],#[]++[].toArray⟩:=
 ⟨_,_,112,#[Ze (Y3 p)],rfl,λw=>⟨by simp [go_sem],Jo p w⟩⟩
structure OkK (g:Gr) (k:Nat):Prop where
 ok:OkG g
 len:g.YY.length=k
 le:k<=6
theorem zr {d:Dia} {n:Nat} (h:iD d n):Sx n (tre d)/\d=dia (tre d):=by obtain ⟨t,h1,h2,h3,_,h5⟩:=DZ h;rw [h3];exact ⟨⟨h1,h5⟩,h2⟩
theorem qH {n:Nat}:∀(l:List Tk) (done:List ο),di n done l->∀t∈l,∃d,zJ n d t
 |[],_,_,_,h=>by cases h
 |t::l,done,⟨h1,h2⟩,x,hx=>by
  rcases W6.1 hx with rfl|hx
  ·exact ⟨_,h1⟩
  ·exact qH l _ h2 x hx
theorem qI {g:Gr}:∀(l:List Pr) (done:List ο),cN g done l=0->∀p∈l,eX g p/\∃d,zH g d p
 |[],_,_,_,h=>by cases h
 |p::l,done,h,x,hx=>by
  unfold cN at h;by_cases h1:eX g p
  ·rw [Υ (μ h1)] at h;by_cases h2:zH g done p
   ·rw [Υ (μ h2)] at h;rcases W6.1 hx with rfl|hx
    ·exact ⟨h1,_,h2⟩
    ·exact qI l _ h x hx
   ·rw [Χ h2] at h;cases h
  ·rw [Χ h1] at h;cases h
section
variable {g:Gr} {k:Nat}
theorem OkK.fam (h:OkK g k):Sx k (tre g.fam)/\g.fam=dia (tre g.fam):=by have:=zr h.ok.fam.2.2.1;rwa [h.len] at this
theorem OkK.tok (h:OkK g k) {t:Tk} (ht:t∈g.YX):Sx k (tre t.cond)/\t.cond=dia (tre t.cond):=by obtain ⟨d,_,_,_,_,h5,_⟩:=qH _ _ h.ok.YX t ht;have:=zr h5;rwa [h.len] at this
theorem OkK.prod (h:OkK g k) {x:Pr} (hx:x∈g.YV):Sx k (tre x.cond)/\x.cond=dia (tre x.cond)/\eX g x:=by obtain ⟨h1,d,_,_,h3,_⟩:=qI _ _ h.ok.YV x hx;have:=zr h3;rw [h.len] at this;exact ⟨this.1,this.2,h1⟩
def kf (g:Gr) (i:Int):Tr:=match g.YX[i.toNat]? with
 |some t=>tre t.cond
 |none=>Y0 Y6
theorem OkK.tkd (h:OkK g k) (i:Int):Sx k (kf g i):=by
 unfold kf;split
 ·rename_i t ht;exact (h.tok (W7 ht)).1
 ·exact Sx.Y0 k Y6
def jm (g:Gr):Tr->List Sy->Tr
 |d,[]=>d
 |d,s::r=>jm g (if s.t=Y8 then ap2 aY d (kf g s.i) else d) r
theorem mZ (s:Sy):∀(r:List Sy) (d:Tr),jm g d (r++[s])=if s.t=Y8 then ap2 aY (jm g d r) (kf g s.i) else jm g d r
 |[],d=>rfl
 |x::r,d=>by rw [XP];unfold jm;exact mZ s r _
theorem eT (h:OkK g k):∀(r:List Sy) {d:Tr},Sx k d->Sx k (jm g d r)/\∀c,(jm g d r).ev c=(d.ev c && r.all λs=> !s.t || (kf g s.i).ev c)
 |[],d,hd=>⟨hd,λc=>by simp [jm]⟩
 |s::r,d,hd=>by
  unfold jm;by_cases hs:s.t=Y8
  ·rw [Χ hs];obtain ⟨h1,h2⟩:=eT h r (hd.ap2 (o:=aY) (h.tkd s.i));refine ⟨h1,λc=> ?_⟩;rw [h2,YL,(bq hd.1 (h.tkd s.i).1).2,hs,Bool.and_assoc];rfl
  ·rw [Υ hs];obtain ⟨h1,h2⟩:=eT h r hd;exact ⟨h1,λc=>by rw [h2,YL,XZ.2 hs];simp⟩
def aD (g:Gr) (i:Nat):Tr:=match g.YV[i]? with
 |some x=>jm g (ap2 aY (tre g.fam) (tre x.cond)) x.right
 |none=>Y0 Y6
theorem OkK.prs (h:OkK g k) (i:Nat):Sx k (aD g i):=by
 unfold aD;split
 ·rename_i x hx;exact (eT h _ (h.fam.1.ap2 (o:=aY) (h.prod (W7 hx)).1)).1
 ·exact Sx.Y0 k Y6
theorem OkK.prs_ev (h:OkK g k) {i:Nat} {x:Pr} (hx:g.YV[i]? =Y3 x) (c:Cf):(aD g i).ev c=((tre g.fam).ev c && (tre x.cond).ev c && x.right.all λs=> !s.t || (kf g s.i).ev c):=by unfold aD;rw [hx];have hp:=(h.prod (W7 hx)).1;dsimp only;rw [(eT h _ (h.fam.1.ap2 (o:=aY) hp)).2,(bq h.fam.1.1 hp.1).2]
end
instance:Mem Dia where
 n:=2
 rep F d c:=DV F c d
 len h:=h.size
 le hl h:=h.le hl
 st h:=h.st
theorem VB:∃b z,SlT 39 31 2 b z:=⟨_,_,underlying39,Pg,HQ,rfl,by decide,by decide⟩
abbrev anA (g:Gr) (c n t s p l f q:Sl):Γ:= #[c.v,n.v,vi g.fam.2,t.v,s.v,p.v,vi g.start,l.v,f.v,q.v]
def oO (g:Gr) (n:Nat):List Dia:=(List.range n).map λi=>dia (aD g i)
theorem Dx (g:Gr) (n:Nat):oO g (n+1)=oO g n++[dia (aD g n)]:=by unfold oO;rw [Yw,Xt];rfl
theorem jo (g:Gr) (n:Nat):(oO g n).length=n:=by unfold oO;rw [Xd,XI]
structure AnV (F:PH) (b:Nat) (g:Gr):Prop where
 ex:∃c n t s p l f q,F b=Y3 (Y4 (anA g c n t s p l f q) 107)/\GS F g c n t s p l f/\RL F q (oO g g.YV.length)
theorem AnV.le {F G:PH} {b:Nat} {g:Gr} (h:AnV F b g) (l:F.le G):AnV G b g:=by obtain ⟨c,n,t,s,p,lv,f,q,h1,h2,h3⟩:=h;exact ⟨c,n,t,s,p,lv,f,q,l _ _ h1,h2.le l,h3.le l⟩
theorem Fx (x:Addr) (i j:Nat):Zb (Zb x i) j=Zb x (i+j):=by obtain ⟨a,o,p⟩:=x;by_cases hi:i=0<;>by_cases hj:j=0<;>simp [Zb,hi,hj,Nat.add_assoc]
section
variable {G F:PH} {As:List (Ψ)} {g:Gr} {k:Nat}
theorem Qz (hk:OkK g k) {N1:Ω} {rv:ξ} {b2 b4 b20 b9 i:Nat} {p r:Sl} {R:VR} {c n t s p' l f:Sl} {x:Pr} (hx:g.YV[i]? =Y3 x) (q2:G b2=Y3 (Y4 (g.arr c n t s p' l f) 37)) (ht:RL G t g.YX) (hr:RL G r x.right) (hl:x.right.length<=1000000)
  {w:Γ} {d:Tr} (hd:Sx k d) (hw:DV G w (dia d)) (h:St G F (pt b9 (Y4 w 31)::As))
  (fin:∀G' F' w',G.le G'->DV G' w' (dia (jm g d x.right))->St G' F' (pt b9 (Y4 w' 31)::As)->zc N1 rv b2 b4 b20 b9 p (i:Int) R F'):
  ∃(I2:Nat->Ω) (m2:Nat),I2 m2 (0:Int) F/\∀m2 v_39 F,I2 m2 v_39 F->u6 N1 (λy2_0 F=>∃m',m'<m2/\I2 m' y2_0 F) rv b2 b4 b20 b9 p (i:Int) r R v_39 F:=by
 have elen:=hr.len;have hsy:=(hk.prod (W7 hx)).2.2.2;refine bh (u6 N1 · rv b2 b4 b20 b9 p (i:Int) r R) x.right.length (λj F'=>∃(G':PH) (u:Γ),G.le G'/\DV G' u (dia (jm g d (x.right.take j)))/\St G' F' (pt b9 (Y4 u 31)::As)) ⟨G,w,am _,by rw [XY];exact hw,h⟩ ?_;rintro j F3 N hj ⟨G1,u,l1,hu,h⟩ next;obtain ⟨fx,_⟩:=eT hk (x.right.take j) hd;unfold u6;refine ⟨λhlt=> ?_,λhge=> ?_⟩
 ·have hlt:j<x.right.length:=by omega
  refine ixc ((hr.le l1).le h.le) (by decide) (by omega) (by omega) λa cc sy hs hrow hc=>⟨cc,Mem.len hc,hrow,?_⟩;rw [N4] at hs;obtain rfl:cc=sy.arr:=hc;have et:=dz hs;have hsn:=mZ (g:=g) sy (x.right.take j) d;obtain ⟨s0,_,s2⟩:=hsy sy (W7 hs);refine h.var (by simp [ak]) (λb11 G2 F4 l2 q11 h=>⟨_,ld (h.le _ _ q11) rfl,?_⟩) rfl rfl;have fin2:∀{G' F':PH} {u':Γ},G1.le G'->DV G' u' (dia (jm g d (x.right.take (j+1))))->St G' F' (pt b9 (Y4 u' 31)::As)->
    u0 N1 N rv b2 b4 b20 b9 p (i:Int) r (j:Int) R F':=λ{G' F' u'} l hu' h=>by
   unfold u0;rw [aA hlt];exact next _ hlt ⟨G',u',aa l1 l,hu',h⟩
  refine ⟨λhst=> ?_,λhst=> ?_⟩
  ·have hst:sy.t=Y8:=hst;rw [Χ hst] at hsn;obtain ⟨tk,htk,_⟩:=s2 hst;have ed:kf g sy.i=tre tk.cond:=by unfold kf;rw [htk]
   obtain ⟨tx,td⟩:=hk.tok (W7 htk);have ht2:=ht.le (aa l1 l2);have etl:=ht2.len;have hti:sy.i.toNat<g.YX.length:=(N6.1 htk).1;refine ⟨u,hu.size,ac (h.ptAt (i:=0) rfl),_,ld (h.le _ _ (l2 _ _ (l1 _ _ q2))) rfl,_,ld (h.le _ _ q11) rfl,?_⟩;refine h.ix ht2 (by decide) s0 (by omega) λa2 c2 y hy hrow2 hc2=> ?_;rw [htk] at hy;obtain rfl:=Xy hy;obtain ⟨pp,nn,rfl,_,hn2⟩:=hc2;have hdv:DV G2 #[nn.v,vi tk.cond.2] (dia (kf g sy.i)):=by rw [ed,<- td];exact DV.mk hn2
   refine ⟨#[nn.v,vi tk.cond.2],rfl,λq hq=> ?_,?_⟩
   ·have hq2:q<2:=hq;have:=hrow2 (5+q) (by show 5+q<7;omega);rw [Fx];refine this.trans ?_;rcases (show q=0\/q=1 by omega) with rfl|rfl<;>rfl
   ·refine h.run (P:=λr' G'=>∃y,r'=Zh #[Y9 y,vi 0]/\DV G' y (dia (ap2 aY (jm g d (x.right.take j)) (kf g sy.i)))) ((iw hk.le fx (hk.tkd sy.i) (hu.le l2) hdv).mono λr F' ⟨x,a,b,c⟩=>⟨⟨x,a,b⟩,c⟩) λ_ G4 F6 hr4 l4 h=> ?_;obtain ⟨y,rfl,hy⟩:=hr4;refine ⟨_,_,rfl,ld (h.le _ _ (l4 _ _ q11)) rfl,ld (h.le _ _ (l4 _ _ (l2 _ _ (l1 _ _ q2)))) rfl,?_⟩;refine h.runv (bx hy) λG5 F7 l5 h=>⟨_,rfl,?_⟩;refine ⟨ld (h.le _ _ (l5 _ _ (l4 _ _ q11))) rfl,ld (h.le _ _ (l5 _ _ (l4 _ _ (l2 _ _ (l1 _ _ q2))))) rfl,?_⟩;refine h.put0 (w':=y) hy.size hu.size hy.st λF8 h=> ?_;refine fin2 (aa l2 (aa l4 l5)) ?_ h;rw [et,hsn];exact hy.le l5
  ·have hst:sy.t≠Y8:=λe=>by rw [show sy.t=Y8 from e] at hst;cases hst
   rw [Υ hst] at hsn;refine fin2 l2 ?_ h;rw [et,hsn];exact hu.le l2
 ·have e:j=x.right.length:=by omega
  subst e;rw [Xg] at hu;exact fin G1 _ u l1 hu h
end
theorem xB {x y z:ξ}:(#[]++ #[x]++ #[y,z]:Γ)= #[x,y,z]:=by simp
section
variable {G F:PH} {As:List (Ψ)} {Bs:PH->List (Ψ)} {g:Gr} {k:Nat}
theorem St.rot {A:Ψ} (h:St G F (A::As)):St G F (As++[A]):=by
 refine h.pick (λi=>if i=As.length then 0 else i+1) (λi j _ _ e=> ?_) (λi hi=> ?_)
 ·split at e<;>split at e<;>omega
 ·rw [Xa,Xk] at hi;split
  ·rename_i e;rw [e,Xn (W8 _),Nat.sub_self];rfl
  ·rw [Xh (by omega)];rfl
theorem St.unrot {A:Ψ} (h:St G F (As++[A])):St G F (A::As):=by
 refine h.pick (λi=>if i=0 then As.length else i - 1) (λi j hi hj e=> ?_) (λi hi=> ?_)
 ·rw [Xl] at hi hj;split at e<;>split at e<;>omega
 ·rw [Xl] at hi;split
  ·rename_i e;rw [e,Xn (W8 _),Nat.sub_self];rfl
  ·rename_i e;obtain ⟨j,rfl⟩:∃j,i=j+1:=⟨i - 1,by omega⟩;rw [Nat.add_sub_cancel,Xh (by omega)];rfl
theorem eG {v:Γ} (hT:Tab G) (hg:GV G v g) (hz:Sz g) (hk:OkK g k) (hl:∀x∈g.YV,x.right.length<=1000000) (hp:g.YV.length<=1000000) (h:St G F As) {kr:Nat} {fst cap:Γ} (cb:aC prog kr=Y8)
  (run:∀G' b F',G.le G'->AnV G' b g->St G' F' As->ai prog kr (fst++ #[Ze (Y3 ⟨b,0,Y5⟩)]++cap) F' λr F''=>∃G'',r=Zh #[]/\G'.le G''/\St G'' F'' (Bs G'')):
  ν 51 #[Y9 v,.func (.func kr) fst cap] F λr F'=>r=vi 0/\∃G',G.le G'/\St G' F' (Bs G'):=by
 obtain ⟨_,_,T⟩:=VB;have hc:=pg.2 hk.ok;refine Vk ?_;unfold Qc;refine h.newG λb2 G1 F1 l1 q2 _ h=>h.new λb4 F2 h=>⟨v,hg.size,ac (h.le _ _ q2),?_⟩;refine h.run (xP (hT.le l1) (hg.le l1) hz) λ_ G3 F3 hr l3 h=> ?_;rw [hr,hc];refine ⟨_,rfl,λhn=>absurd rfl hn,λ_=>⟨Jp _,v,hg.size,ac (h.le _ _ (l3 _ _ q2)),hg.size,?_⟩⟩;have l13:=aa l1 l3;obtain ⟨c,n,t,s,p,lv,f,rfl,hs⟩:=hg.le l13;have q2:=l3 _ _ q2;refine h.new λb20 F4 h=> ?_;rw [show wr (#[Zm Y5 0 0,.slice Y5 0 0,vi 0,.slice Y5 0 0,.slice Y5 0 0,.slice Y5 0 0,vi 0,.slice Y5 0 0,.slice Y5 0 0,.slice Y5 0 0]:Γ) 0 (g.arr c n t s p lv f).toList=anA g c n t s p lv f Zi by kernel_rfl] at h;refine ⟨_,ld (h.le _ _ q2) rfl,?_⟩;have h:=h.nilOwn 31 2;have ep:=hs.p.len
 refine bh (zd · (.func (.func kr) fst cap) b2 b4 b20 p _) g.YV.length (λi F'=>∃(G':PH) (sl:Sl) (vs:List Γ),G3.le G'/\cZ G' (oO g i) vs/\
  St G' F' (own sl 31 2 (cat vs)::pt b20 (Y4 (anA g c n t s p lv f sl) 107)::pt b4 (Y4 #[vi 0] 40)::As)) ⟨G3,Zi,[],am _,.nil,h⟩ ?_
 rintro i F5 N hi ⟨G4,sl,vs,l4,hv,h⟩ next;have hs4:=hs.le l4;unfold zd;refine ⟨λhlt=> ?_,λhge=> ?_⟩
 ·have hlt:i<g.YV.length:=by omega
  refine h.ix hs4.p (by decide) (by omega) (by omega) λa c8 x hx hrow hc8=>⟨c8,Mem.len hc8,hrow,?_⟩;rw [N4] at hx;have hxm:=W7 hx;obtain ⟨hxc,hxd,_⟩:=hk.prod hxm;refine h.var (Mem.st hc8) (λb8 G5 F6 l5 q8 h=> ?_) rfl (Mem.len hc8);obtain ⟨r8,n8,l8,rfl,hr8,hn8,_⟩:=hc8;have hs5:=hs4.le l5;have q25:=l5 _ _ (l4 _ _ q2);have d1:DV G5 #[n.v,vi g.fam.2] (dia (tre g.fam)):=by rw [<- hk.fam.2];exact DV.mk hs5.n
  have d2:DV G5 #[n8.v,vi x.cond.2] (dia (tre x.cond)):=by rw [<- hxd];exact DV.mk (hn8.le l5)
  refine ⟨#[n.v,vi g.fam.2],rfl,je (h.le _ _ q25) rfl,#[n8.v,vi x.cond.2],rfl,je (h.le _ _ q8) rfl,?_⟩;refine h.run (P:=λr' G'=>∃y,r'=Zh #[Y9 y,vi 0]/\DV G' y (dia (ap2 aY (tre g.fam) (tre x.cond)))) ((iw hk.le hk.fam.1 hxc d1 d2).mono λr F' ⟨x,a,b,c⟩=>⟨⟨x,a,b⟩,c⟩) λ_ G6 F7 hr6 l6 h=> ?_;obtain ⟨y,rfl,hy⟩:=hr6;refine ⟨_,_,rfl,?_⟩;refine h.runv (bx hy) λG7 F8 l7 h=>⟨_,rfl,?_⟩;have l57:=aa l6 l7;refine h.new λb9 F9 h=> ?_;refine h.put0 (w':=y) hy.size rfl hy.st λF10 h=>⟨_,ld (h.le _ _ (l57 _ _ q8)) rfl,?_⟩;refine Qz hk hx (l57 _ _ q25) (hs5.le l57).t (hr8.le (aa l5 l57)) (hl x hxm) (hk.fam.1.ap2 (o:=aY) hxc) (hy.le l7) h λG8 F11 w' l8' hw h=> ?_;unfold zc;refine ⟨_,h.ld2 rfl,w',hw.size,ac (h.ptAt (i:=0) rfl),hw.size,?_⟩;have l58:=aa l57 l8';have hv8:=hv.le (aa l5 l58);have hsl:sl.len=i:=by have:=RL.len ⟨vs,hv8.le h.le,bV.rd (h.ownAt (i:=1) rfl).1⟩ (by decide);rw [jo] at this;exact this
  refine h.push1 T hw.size hw.st (by omega) λs' G9 F12 l9 h hl'=> ?_;refine h.set2 (w':=anA g c n t s p lv f s') (Zn rfl) rfl λF13 h=> ?_;unfold E9;rw [aA hlt];refine next _ hlt ⟨G9,s',vs++[w'],aa l4 (aa l5 (aa l58 l9)),?_,?_⟩
  ·rw [Dx];have e:aD g i=jm g (ap2 aY (tre g.fam) (tre x.cond)) x.right:=by unfold aD;rw [hx]
   rw [e];exact (hv8.append (.cons hw .nil)).le l9
  ·rw [bY,cJ];exact h.tail
 ·have e:i=g.YV.length:=by omega
  subst e;unfold E8;obtain ⟨G5,l5,hd,h⟩:=h.pinO;obtain ⟨G6,l6,⟨H,hA,hH⟩,h⟩:=h.pin;have q20:=hH _ _ hA;have lAll:=aa l4 (aa l5 l6);have hAn:AnV G6 b20 g:=⟨c,n,t,s,p,lv,f,sl,q20,hs.le lAll,⟨vs,hv.le (aa l5 l6),hd.le l6⟩⟩;refine ⟨kr,fst,cap,rfl,cb,?_⟩;refine (h.rot.callL (Bs':=λ_ G'=>Bs G') (P:=λr _=>r=Zh #[]) λF1 h1=>run G6 b20 F1 (aa l13 lAll) hAn h1).mono ?_;rintro r F7 ⟨G7,rfl,l7,h⟩;refine ⟨rfl,?_⟩;have h:=h.unrot;refine h.set0 (w':= #[vi 0]) (Zn rfl) rfl λF8 h=>⟨_,h.ld0 rfl,rfl,G7,aa l13 (aa lAll l7),h.tail⟩
end
end
