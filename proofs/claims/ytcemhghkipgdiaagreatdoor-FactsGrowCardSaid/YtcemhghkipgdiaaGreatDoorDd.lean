/-
  FactsGrow.
-/
import Derived.Test.YtcemhghkipgdiaaGreatDoorFh
import Derived.Test.YtcemhghkipgdiaaGreatDoorEx
namespace Go.Proofs.YtcemhghkipgdiaaGreatDoor
open Go Go.Proofs.Tryz Tr
set_option maxRecDepth 10000
theorem EG {a b:Tr} {both:Bool} (ha:fW a) (hb:fW b):te (dia a) (dia b) both= !wF a b both:=by unfold te;rw [if_neg (by rw [nj ha hb];simp),fu ha.1,fu hb.1]
theorem yz {k:Nat} {a b:Tr} {u w:Γ} {F:PH} (hk:k<=6) (ha:Sx k a) (hb:Sx k b) (hu:DV F u (dia a)) (hw:DV F w (dia b)) (h:∀c,a.ev c=true->b.ev c=true):aj prog 37 #[.agg u,.agg w] F λr F'=>r=.bool true/\F.le F':=by
 refine (wG hu hw).mono ?_;rintro r F' ⟨rfl,l⟩;refine ⟨?_,l⟩;rw [EG (ha.small hk) (hb.small hk)];have:wF a b false=false:=by
  cases e:wF a b false with
  |false=>rfl
  |true=>obtain ⟨c,h1,h2⟩:=qZ.1 e;rw [h c h1] at h2;cases h2
 rw [this];rfl
theorem yA {k:Nat} {F:PH} {a b:Sl} {ts us:List Tr} (hk:k<=6) (ha:RL F a (ts.map dia)) (hb:RL F b (us.map dia)) (hl:ts.length=us.length) (hm:ts.length<=1000000) (ht:∀t∈ts,Sx k t) (hu:∀t∈us,Sx k t)
  (h:∀(i:Nat) t u,ts[i]? =some t->us[i]? =some u->∀c,t.ev c=true->u.ev c=true):aj prog 38 #[a.v,b.v] F (RT6 F):=by
 have ea:=ha.len (by decide);have eb:=hb.len (by decide);rw [SW] at ea eb;refine RY ?_;unfold PK;refine ⟨λhn=>absurd (by omega) hn,λ_=> ?_⟩;refine bC (yO · a b _) ts.length (λi F'=>F.le F') (aq _) ?_;rintro i F1 N hi l1 next;unfold yO;refine ⟨λhlt=> ?_,λhge=>⟨rfl,l1⟩⟩;have hlt:i<ts.length:=by omega
 obtain ⟨t,hti⟩:∃t,ts[i]? =some t:=⟨_,N4 hlt⟩;obtain ⟨u,hui⟩:∃u,us[i]? =some u:=⟨_,N4 (by omega)⟩;refine ixc (ha.le l1) (by decide) (by omega) (by omega) λa1 c1 d hd hrow1 hc1=>⟨c1,Mem.len hc1,hrow1,?_⟩;refine ixc (hb.le l1) (by decide) (by omega) (by omega) λa2 c2 e he hrow2 hc2=>⟨c2,Mem.len hc2,hrow2,?_⟩;rw [N5,SX,hti] at hd;rw [N5,SX,hui] at he;cases hd;cases he;refine (yz hk (ht t (SP hti)) (hu u (SP hui)) (show DV F1 c1 _ from hc1) (show DV F1 c2 _ from hc2) (h i t u hti hui)).mono ?_;rintro _ F2 ⟨rfl,l2⟩;refine ⟨_,rfl,λhn=>(by cases hn),λ_=> ?_⟩;rw [aG hlt (by omega)];exact next _ hlt (aa l1 l2)
def trs (S:Int->Tr) (n:Nat):List Tr:=(List.range n).map λi:Nat=>S (i:Int)
theorem EH (S:Int->Tr) (n:Nat):eB S n=(trs S n).map dia:=by unfold eB trs;rw [List.map_map];rfl
theorem o8 (S:Int->Tr) (n:Nat):(trs S n).length=n:=by unfold trs;rw [SW,Tu]
theorem AV {S:Int->Tr} {n:Nat} {t:Tr} (h:t∈trs S n):∃i:Nat,i<n/\t=S i:=by obtain ⟨i,hi,rfl⟩:=SY.1 h;exact ⟨i,TB.1 hi,rfl⟩
theorem AW {S:Int->Tr} {n i:Nat} {t:Tr} (h:(trs S n)[i]? =some t):i<n/\t=S i:=by
 have hi:i<n:=by have:=(N6.1 h).1;rwa [o8] at this
 unfold trs at h;rw [SX,Tz hi] at h;exact ⟨hi,(Ta h).symm⟩
theorem gc {k n:Nat} {F:PH} {a b:Sl} {S U:Int->Tr} (hk:k<=6) (ha:RL F a (eB S n)) (hb:RL F b (eB U n)) (hn:n<=1000000) (hS:Sxs k S) (hU:Sxs k U) (h:∀(i:Nat) c,i<n->(S i).ev c=true->(U i).ev c=true):aj prog 38 #[a.v,b.v] F (RT6 F):=by
 rw [EH] at ha hb;refine yA hk ha hb (by rw [o8,o8]) (by rw [o8];exact hn) (λt ht=> ?_) (λt ht=> ?_) λi t u ht hu c hc=> ?_
 ·obtain ⟨i,_,rfl⟩:=AV ht;exact hS _
 ·obtain ⟨i,_,rfl⟩:=AV ht;exact hU _
 ·obtain ⟨hi,rfl⟩:=AW ht;obtain ⟨_,rfl⟩:=AW hu;exact h i c hi hc
theorem Hm {g:Gr} {p:Pr} (c:Cf):Inc g.prods ({g with prods:=g.prods++[p]}:Gr).prods (aH g) (aH {g with prods:=g.prods++[p]}) c c:=λi x hx hp=>by
 have hx':({g with prods:=g.prods++[p]}:Gr).prods[i]? =some x:=by show (g.prods++[p])[i]? =_;rw [SU (N6.1 hx).1];exact hx
 exact ⟨i,x,hx',rfl,rfl,by rw [B8 (g:=g) (h:={g with prods:=g.prods++[p]}) rfl rfl hx hx'];exact hp⟩
section
variable {F G F1:PH}
theorem Hn {v w:Γ} {x:Rw} {sm:Sl} {more ms:List Ln} {y:Ln} {b2 b6:Nat} (lF:F.le G) (hT:Tab G) (hx:vq G v x) (hm:RL G sm more) (hms:more.take 4=ms++[y]) (q2:G b2=some (.cells v 26)) (q6:G b6=some (.cells w 37)) (hg:GV G w (cW x ms))
  (h:St G F1 []):wL sm b2 true (some (Addr.mk b6 0 none)) (RT6 F) F1:=by
 have hvs:v.size=5:=by obtain ⟨⟨a,b,c,rfl,_⟩,_⟩:=hx;rfl
 have em:=hm.len (by decide);have hmin:(more.take 4).length=min 4 more.length:=S6 ..;have hlen:ms.length+1=min 4 more.length:=by rw [<- hmin,hms,SO];rfl
 have emin:Int.toNat (min (sm.len:Int) 4)=min 4 more.length:=by rw [em];omega
 unfold wL;rw [emin];have hcut:RL G (Sl.cut sm 4 0 (min 4 more.length) sm.cap) (more.take (min 4 more.length)):=hm.cut rfl (by omega);have etk:more.take (min 4 more.length)=ms++[y]:=by
  rw [<- hms];by_cases h4:4<=more.length
  ·rw [Nat.min_eq_left h4]
  ·rw [Nat.min_eq_right (by omega),SQ (SM _),SQ (by omega)]
 rw [etk] at hcut;have hms4:ms.take 4=ms:=SQ (by omega);have eadd:cW x (ms++[y])=nW (cW x ms) ms.length y:=by unfold cW;rw [SQ (l:=ms++[y]) (by rw [SO,S4];omega),hms4,i9,S5]
 have lg:=wK x ms;have lh:=wK x (ms++[y]);refine ⟨v,hvs,ac (h.le _ _ q2),?_⟩;refine h.run (P:=λr G'=>∃w,r=.agg w/\GV G' w (cW x (ms++[y]))) (kg hx hcut) λ_ G3 F3 hr l3 h=> ?_;obtain ⟨wh,rfl,hh⟩:=hr;refine ⟨wh,rfl,?_⟩;refine h.var hh.st (λb7 G4 F4 l4 q7 h=> ?_) rfl hh.size;replace hh:=hh.le l4;have l04:=aa l3 l4;replace hg:=hg.le l04;replace q6:=l04 _ _ q6;have lF4:=aa lF l04;replace hT:=hT.le l04;have gok:=lg.ok (by omega);have hok:=lh.ok (by omega);have gz:=lg.mg.sz lg.bd;have hz:=lh.mg.sz lh.bd;have grl:=lg.rl;have hrl:=lh.rl;rw [eadd] at hh lh hok hz hrl;generalize cW x ms=g at*;have ec:(nW g ms.length y).conds=g.conds:=rfl;have en:(nW g ms.length y).nons=g.nons:=rfl;have et:(nW g ms.length y).toks=g.toks:=rfl;have inc:∀c,Inc g.prods (nW g ms.length y).prods (aH g) (aH (nW g ms.length y)) c c:=λc=>Hm c;obtain ⟨o1,o2,o3,o4⟩:=fE gok.ok;obtain ⟨u1,u2,u3,u4⟩:=fE hok.ok;rw [ec] at hok;generalize nW g ms.length y=g2 at*;have hk:=gok.le;have r6:∀{G' F':PH} {As:List (Ψ)},G4.le G'->St G' F' As->F'.row (Addr.mk b6 0 none) w:=λl h=>ac (h.le _ _ (l _ _ q6));have r7:∀{G' F':PH} {As:List (Ψ)},G4.le G'->St G' F' As->F'.row (Addr.mk b7 0 none) wh:=λl h=>ac (h.le _ _ (l _ _ q7));refine ⟨_,rfl,w,hg.size,r6 (aq _) h,?_⟩;refine h.run (ik hT hg gz gok grl (by omega) (by omega)) λ_ G5 F5 hr l5 h=> ?_;obtain ⟨sa,N,rfl,hN,ha⟩:=hr;refine ⟨sa,_,rfl,wh,hh.size,r7 l5 h,?_⟩;refine h.run (ik (hT.le l5) (hh.le l5) hz hok hrl (by omega) (by omega)) λ_ G6 F6 hr l6 h=> ?_;obtain ⟨sb,N',rfl,hN',hb⟩:=hr;have m6:=aa l5 l6;refine ⟨sb,_,rfl,w,hg.size,r6 m6 h,?_⟩;refine h.run (fR (hT.le m6) (hg.le m6) gz gok grl (by omega) (by omega)) λ_ G7 F7 hr l7 h=> ?_;obtain ⟨sc,D,rfl,hD,hc⟩:=hr;have m7:=aa m6 l7;refine ⟨sc,_,rfl,wh,hh.size,r7 m7 h,?_⟩;refine h.run (fR (hT.le m7) (hh.le m7) hz hok hrl (by omega) (by omega)) λ_ G8 F8 hr l8 h=> ?_;obtain ⟨sd,D',rfl,hD',hd⟩:=hr;have m8:=aa m7 l8;refine ⟨sd,_,rfl,w,hg.size,r6 m8 h,?_⟩;refine h.run (hY (hT.le m8) (hg.le m8) gz gok) λ_ G9 F9 hr l9 h=> ?_;obtain ⟨se,_,rfl,⟨C,hC,rfl⟩,he⟩:=hr;have m9:=aa m8 l9;refine ⟨se,_,rfl,wh,hh.size,r7 m9 h,?_⟩;refine h.run (hY (hT.le m9) (hh.le m9) hz hok) λ_ G10 F10 hr l10 h=> ?_;obtain ⟨sf,_,rfl,⟨C',hC',rfl⟩,hf⟩:=hr;have m10:=aa m9 l10;refine ⟨sf,_,rfl,w,hg.size,r6 m10 h,?_⟩;refine h.run (mP (hT.le m10) (hg.le m10) gz gok grl (by omega) (by omega) (by omega)) λ_ G11 F11 hr l11 h=> ?_;obtain ⟨si,_,rfl,⟨S,hS,rfl⟩,hi⟩:=hr;have m11:=aa m10 l11;refine ⟨si,_,rfl,wh,hh.size,r7 m11 h,?_⟩;refine h.run (mP (hT.le m11) (hh.le m11) hz hok hrl (by omega) (by omega) (by omega)) λ_ G12 F12 hr l12 h=> ?_;obtain ⟨sk,_,rfl,⟨S',hS',rfl⟩,hk'⟩:=hr;have m12:=aa m11 l12;rw [en] at hb hd hf hC';rw [en,et] at hk';replace hi:=hi.le l12;have ei:=hi.len (by decide);have ek:=hk'.len (by decide);rw [tu] at ei ek;obtain ⟨c,n,t,s,p,l,f,rfl,hs⟩:=id hg;have es:=hs.s.len (by decide);refine ⟨sk,_,rfl,s,by rw [aC];exact ld (h.le _ _ (m12 _ _ q6)) rfl,λhn=>absurd (by omega) hn,λ_=>⟨λhn=>absurd (by omega) hn,λ_=> ?_⟩⟩;have n5:=aa l6 (aa l7 (aa l8 (aa l9 (aa l10 (aa l11 l12)))));have n6:=aa l7 (aa l8 (aa l9 (aa l10 (aa l11 l12))));have n7:=aa l8 (aa l9 (aa l10 (aa l11 l12)));have n8:=aa l9 (aa l10 (aa l11 l12));have n9:=aa l10 (aa l11 l12);have n10:=aa l11 l12;refine h.runv (gc hk (ha.le n5) (hb.le n6) (by omega) hN.sx hN'.sx λi c _ hc=>(hN'.iff _ _).2 (((hN.iff _ _).1 hc).inc (inc c))) λG13 F13 l13 h=>⟨_,rfl,λhn=>(by cases hn),λ_=> ?_⟩;refine h.runv (gc hk ((hc.le n7).le l13) ((hd.le n8).le l13) (by omega) hD.sx hD'.sx λi c _ hc=>(hD'.iff _ _).2 (((hD.iff _ _).1 hc).inc (inc c))) λG14 F14 l14 h=>⟨_,rfl,λhn=>(by cases hn),λ_=> ?_⟩;have l1314:=aa l13 l14;refine h.runv (gc hk ((he.le n9).le l1314) ((hf.le n10).le l1314) (by omega) hC.sx hC'.sx λi c hi hc=>(hC'.iff i c hi).2 (((hC.iff i c hi).1 hc).mono λ_ _ s=>s.inc (inc c))) λG15 F15 l15 h=>⟨_,rfl,λhn=>(by cases hn),λ_=> ?_⟩;have n15:=aa l1314 l15;refine bC (EQ · true sa si sk _) g.nons.length (λi F'=>∃(G':PH),G15.le G'/\St G' F' []) ⟨G15,aq _,h⟩ ?_;rintro i F16 N1 hi' ⟨G16,l16,h⟩ next;have n16:=aa n15 l16;unfold EQ;refine ⟨λhlt=> ?_,λhge=> ?_⟩
 ·have hlt:i<g.nons.length:=by omega
  refine ixc (hi.le n16) (by decide) (by omega) (by omega) λa1 c1 row1 hrw1 hrow1 hc1=> ?_;rw [N5] at hrw1;have e1:row1=nX S g.toks.length i:=by unfold jb at hrw1;rw [SX,Tz hlt] at hrw1;exact (Ta hrw1).symm
  obtain ⟨s1,rfl,hs1⟩:=hc1;refine ⟨s1,aX (bo h.le hrow1) rfl,?_⟩;refine ixc (hk'.le n16) (by decide) (by omega) (by omega) λa2 c2 row2 hrw2 hrow2 hc2=> ?_;rw [N5] at hrw2;have e2:row2=nX S' g.toks.length i:=by unfold jb at hrw2;rw [SX,Tz hlt] at hrw2;exact (Ta hrw2).symm
  obtain ⟨s2,rfl,hs2⟩:=hc2;refine ⟨s2,aX (bo h.le hrow2) rfl,?_⟩;rw [e1] at hs1;rw [e2] at hs2;have f1:∀S:Int×Int->Tr,nX S g.toks.length i=eB (λt=>S ((i:Int),t)) g.toks.length:=λ_=>rfl;rw [f1] at hs1 hs2;refine h.runv (gc hk hs1 hs2 (by omega) (λt=>hS.sx _) (λt=>hS'.sx _) λt c _ hc=>(hS'.iff _ _).2 (((hS.iff _ _).1 hc).inc (inc c))) λG17 F17 l17 h=>⟨_,rfl,λhn=>(by cases hn),λ_=> ?_⟩;rw [aG hlt (by omega)];exact next _ hlt ⟨G17,aa l16 l17,h⟩
 ·have ea:=ha.len (by decide);rw [EI] at ea;unfold JS;refine ⟨λ_=>⟨?_,aa lF4 (aa m12 (aa n16 h.le))⟩,λhn=>(by cases hn)⟩;rw [ea,ei,decide_eq_true rfl]
theorem B6 {v:Γ} {x:Rw} {sm:Sl} {more:List Ln} (hT:Tab F) (hx:vq F v x) (hm:RL F sm more):aj prog 9 #[.agg v,sm.v] F (RT6 F):=by
 refine cQ9 ?_;unfold bQ9;have hvs:v.size=5:=by obtain ⟨⟨a,b,c,rfl,_⟩,_⟩:=hx;rfl
 have em:=hm.len (by decide);have emc:=hm.cap;refine (St.start F).newG λb2 G1 F1 l1 q2 _ h=> ?_;refine h.runv (Hp (hT.le l1)) λG2 F2 l2 h=>⟨_,rfl,λh0=>⟨rfl,aa l1 (aa l2 h.le)⟩,λh0=> ?_⟩;have l02:=aa l1 l2;have h1:1<=more.length:=by omega
 have emin:Int.toNat (min (sm.len:Int) 4)=min 4 more.length:=by rw [em];omega
 refine ⟨by omega,by omega,by omega,v,hvs,ac (h.le _ _ (l2 _ _ q2)),?_⟩;rw [emin];have ecl:(Sl.cut sm 4 0 (min 4 more.length) sm.cap).len=min 4 more.length:=by unfold Sl.cut;dsimp only;omega
 have ecc:(Sl.cut sm 4 0 (min 4 more.length) sm.cap).cap=sm.cap:=by unfold Sl.cut;dsimp only;omega
 have ew:IntKind.i64.wrap (((Sl.cut sm 4 0 (min 4 more.length) sm.cap).len:Int) - 1)=((min 4 more.length - 1:Nat):Int):=by rw [ecl,aP (by omega) (by omega)];omega
 rw [ew];simp only [N5];refine ⟨by omega,by omega,by rw [ecc];omega,?_⟩;have hcut1:RL G2 (Sl.cut sm 4 0 (min 4 more.length) sm.cap) (more.take (min 4 more.length)):=(hm.le l02).cut rfl (by omega);have hcut2:=hcut1.cut (n:=4) rfl (k:=min 4 more.length - 1) (by rw [ecl];omega);rw [List.take_take,show min (min 4 more.length - 1) (min 4 more.length)=min 4 more.length - 1 by omega] at hcut2;obtain ⟨y,hy⟩:∃y,more[min 4 more.length - 1]? =some y:=⟨_,N4 (by omega)⟩;have hms:more.take 4=more.take (min 4 more.length - 1)++[y]:=by
  have:=dP hy;rw [<- this];by_cases h4:4<=more.length
  ·rw [show min 4 more.length - 1+1=4 by omega]
  ·rw [SQ (by omega),SQ (by omega)]
 have fin:∀{G' F':PH} {w w0:Γ} {b6:Nat},w0.size=9->G2.le G'->GV G' w (cW x (more.take (min 4 more.length - 1)))->St G' F' [pt b6 (.cells w0 37)]->az F' (Addr.mk b6 0 none) 9 w λF2=>wL sm b2 true (some (Addr.mk b6 0 none)) (RT6 F) F2:=λ{G' F' w w0 b6} hw0 l hw h=>by refine h.put0 hw.size hw0 hw.st λF3 h=> ?_;obtain ⟨G3,l3,⟨H,hA,hH⟩,h⟩:=h.pin;have l23:=aa l l3;have l03:=aa l02 l23;exact Hn l03 (hT.le l03) (hx.le l03) (hm.le l03) hms (l23 _ _ (l2 _ _ q2)) (hH _ _ hA) (hw.le l3) h
 refine ⟨?_,?_⟩
 ·refine h.run (P:=λr G'=>∃w,r=.agg w/\GV G' w (cW x (more.take (min 4 more.length - 1)))) (kg (hx.le l02) hcut2) λ_ G3 F3 hr l3 h=> ?_;obtain ⟨w,rfl,hw⟩:=hr;exact ⟨w,rfl,h.new λb6 F4 h=>fin rfl l3 hw h⟩
 ·refine h.new λb6 F3 h=> ?_;refine h.run (P:=λr G'=>∃w,r=.agg w/\GV G' w (cW x (more.take (min 4 more.length - 1)))) (kg (hx.le l02) hcut2) λ_ G3 F4 hr l3 h=> ?_;obtain ⟨w,rfl,hw⟩:=hr;exact ⟨w,rfl,fin rfl l3 hw h⟩
end
end Go.Proofs.YtcemhghkipgdiaaGreatDoor
