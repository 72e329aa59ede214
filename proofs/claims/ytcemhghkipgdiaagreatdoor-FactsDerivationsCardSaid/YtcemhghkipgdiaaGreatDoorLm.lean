/-
  Sizes of made and of changed grammars.
-/
import Derived.Test.YtcemhghkipgdiaaGreatDoorCc
import Derived.Test.YtcemhghkipgdiaaGreatDoorGkoinelaw06
import Derived.Test.YtcemhghkipgdiaaGreatDoorGkoineref05
import Derived.Test.YtcemhghkipgdiaaGreatDoorQm
import Derived.Test.YtcemhghkipgdiaaGreatDoorEd
import Derived.Test.YtcemhghkipgdiaaGreatDoorPhn
import Derived.Test.YtcemhghkipgdiaaGreatDoorQr
import Derived.Test.YtcemhghkipgdiaaGreatDoorIo
import Derived.Test.YtcemhghkipgdiaaGreatDoorAb
import Derived.Test.YtcemhghkipgdiaaGreatDoorGbits
import Derived.Test.YtcemhghkipgdiaaGreatDoorEs
import Derived.Test.YtcemhghkipgdiaaGreatDoorHr
namespace Go.Proofs.YtcemhghkipgdiaaGreatDoor
open Go Go.Proofs.Tryz Tr
set_option maxRecDepth 10000
theorem ji (v:Nat) (hv:v<=63) (F:PH):aj prog 44 #[vi v] F λr F'=>ww (dia (tv v)) r F'/\F.le F':=by refine TJ ?_;unfold Rk;refine (St.start F).new λb2 F1 h=> ?_;refine h.run (mP (v:Int)) λr G2 F2 hr l2 h=> ?_;rw [Bq (show v<64 by omega)] at hr;obtain ⟨w,rfl,hw⟩:=hr;refine ⟨w,_,rfl,?_⟩;refine h.var hw.st (λb3 G3 F3 l3 q3 h=> ?_) rfl hw.size;refine ⟨w,hw.size,ac (h.le _ _ q3),?_⟩;refine h.put0 (w':=w) hw.size rfl hw.st λF4 h=> ?_;exact ⟨w,hw.size,h.whole0,⟨w,rfl,(hw.le l3).le h.le⟩,aa l2 (aa l3 h.le)⟩
theorem cU (nm:ByteArray) (left:Int) {s:Sl} {right:List Sy} {w:Γ} {d:Dia} {F:PH} (hs:RL F s right) (hd:DV F w d):aj prog 47 #[.string nm,vi left,.agg w,s.v] F λr F'=>(∃w,r=.agg w/\Mem.rep F' (mkC nm left right d) w)/\F.le F':=by refine TK ?_;unfold Rl;refine (St.start F).newG λb6 G1 F1 l1 q6 _ h=> ?_;refine h.new λb8 F2 h=> ?_;obtain ⟨n,rfl,hn⟩:=hd.out;refine ⟨_,rfl,ac (h.le _ _ q6),rfl,?_⟩;refine h.put0 (w':=(mkC nm left right d).arr s n Sl.nil) rfl rfl (by simp [al,Sl.v]) λF3 h=> ?_;have l:=aa l1 h.le;exact ⟨_,rfl,h.whole0,⟨_,rfl,s,n,Sl.nil,rfl,hs.le l,hn.le l,RL.nil _⟩,l⟩
theorem eY {F:PH} {a b:Sl} {x y:List Dia} (ha:RL F a x) (hb:RL F b y) (hx:∀d∈x,Fit d.1.length) (hl:x.length<=1000000):aj prog 18 #[a.v,b.v] F λr F'=>r=.bool (decide (x=y))/\F.le F':=by
 have ea:=ha.len (by decide);have eb:=hb.len (by decide);refine TE ?_;unfold Rg;refine ⟨λhne=>⟨?_,aq _⟩,λhe=> ?_⟩
 ·rw [decide_eq_false];intro e;rw [e] at ea;omega
 ·have hll:x.length=y.length:=by omega
  refine bD (zZ · a b _) x.length (λi F'=>F.le F'/\x.take i=y.take i) ⟨aq _,by simp⟩ ?_;rintro i F1 N hi ⟨l1,het⟩ next;unfold zZ;refine ⟨λhlt=> ?_,λhge=> ?_⟩
  ·have hlt:i<x.length:=by omega
   refine ixc (ha.le l1) (by decide) (by omega) (by omega) λa1 c1 d hd hrow1 hc1=>⟨c1,Mem.len hc1,hrow1,?_⟩;refine ixc (hb.le l1) (by decide) (by omega) (by omega) λa2 c2 e he2 hrow2 hc2=>⟨c2,Mem.len hc2,hrow2,?_⟩;rw [N5] at hd he2;refine (ii (show DV F1 c1 d from hc1) (show DV F1 c2 e from hc2) (hx d (TU hd))).mono ?_;rintro _ F2 ⟨rfl,l2⟩;refine ⟨_,rfl,λhn=> ?_,λhy=> ?_⟩
   ·refine ⟨?_,aa l1 l2⟩;rw [decide_eq_false];intro e';rw [e'] at hd;rw [hd] at he2;cases he2;simp at hn
   ·have e':d=e:=by simpa using hy
    subst e';rw [aH hlt (by omega)];exact next _ hlt ⟨aa l1 l2,by rw [dT hd,dT he2,het]⟩
  ·have e:i=x.length:=by omega
   subst e;unfold GF;refine ⟨?_,l1⟩;rw [T2,hll,T2] at het;rw [decide_eq_true het]
theorem Tw {n:Nat} {z v w:Γ} (h1:v.size=n) (h2:w.size=n) (hz:z.size=n+n):(wr (wr z 0 v.toList) n w.toList).toList=v.toList++w.toList:=by have e1:=dJ v.toList z.toList 0 (by rw [TX,TX];omega);rw [show z.toList.toArray=z by simp] at e1;rw [e1];have e2:=dJ w.toList (z.toList.take 0++v.toList++z.toList.drop (0+v.toList.length)) n (by simp;omega);rw [e2];simp only [UM,Ul,T7,TX,h1,h2];rw [Ua (by simp [h1]),TV (by simp [h1]),List.drop_of_length_le (by simp;omega),Us]
theorem Tx {n:Nat} {z v w u:Γ} (h1:v.size=n) (h2:w.size=n) (h3:u.size=n) (hz:z.size=n+n+n):(wr (wr (wr z 0 v.toList) n w.toList) (n+n) u.toList).toList=v.toList++w.toList++u.toList:=by have e1:=dJ v.toList z.toList 0 (by rw [TX,TX];omega);rw [show z.toList.toArray=z by simp] at e1;rw [e1];have e2:=dJ w.toList (z.toList.take 0++v.toList++z.toList.drop (0+v.toList.length)) n (by simp;omega);rw [e2];simp only [UM,Ul,T7,TX,h1,h2];rw [Ua (by simp [h1]),TV (by simp [h1])];have e3:=dJ u.toList (v.toList++w.toList++List.drop (n+n) (v.toList++List.drop n z.toList)) (n+n) (by simp;omega);rw [e3];simp only [TX,h3];rw [Ua (by simp;omega),TV (by simp;omega),List.drop_of_length_le (by simp;omega),Us]
section
variable {α:Type} [Mem α] {b e n:Nat} {G:PH} {x y u:α} {v w t z:Γ}
theorem xD (q:G b=some (.cells v e)) (h1:Mem.rep G x v):RL G (Sl.mk (some (Addr.mk b 0 none)) 1 1) [x]:=by have:=Mem.len h1;exact ⟨[v],.cons h1 .nil,RdS.new q (by rw [cE,TV];rw [TX,this,Vl];exact TT _) (by rw [cE,TX,this,Vl]) (TT _)⟩
theorem tS (q:G b=some (.cells (wr (wr z 0 v.toList) n w.toList) e)) (hn:Mem.n α=n) (hz:z.size=n+n) (h1:Mem.rep G x v) (h2:Mem.rep G y w):RL G (Sl.mk (some (Addr.mk b 0 none)) 2 2) [x,y]:=by
 subst hn;have s1:=Mem.len h1;have s2:=Mem.len h2;refine ⟨[v,w],.cons h1 (.cons h2 .nil),RdS.new q ?_ ?_ (TT _)⟩
 ·rw [Tw s1 s2 hz,bL,cE,TV];rw [TQ,TX,TX];omega
 ·rw [bL,cE,TQ,TX,TX];omega
theorem BH (q:G b=some (.cells (wr (wr (wr z 0 v.toList) n w.toList) (n+n) t.toList) e)) (hn:Mem.n α=n) (hz:z.size=n+n+n) (h1:Mem.rep G x v) (h2:Mem.rep G y w) (h3:Mem.rep G u t):RL G (Sl.mk (some (Addr.mk b 0 none)) 3 3) [x,y,u]:=by
 subst hn;have s1:=Mem.len h1;have s2:=Mem.len h2;have s3:=Mem.len h3;refine ⟨[v,w,t],.cons h1 (.cons h2 (.cons h3 .nil)),RdS.new q ?_ ?_ (TT _)⟩
 ·rw [Tx s1 s2 s3 hz,bL,bL,cE,<- Uf,TV];rw [TQ,TQ,TX,TX,TX];omega
 ·rw [bL,bL,cE,TQ,TQ,TX,TX,TX];omega
end
theorem pF {k:Nat} {t:Tr} (h:Sx k t) (hk:k<=6):Fit (dia t).1.length:=ph (h.small hk)
abbrev RT6 (F:PH):VR:=λr F'=>r=.bool true/\F.le F'
structure SnK (F G:PH) (b1 b2 b5:Nat) (c n t s:Sl):Prop where
 lF:F.le G
 hT:Tab G
 q1:∃w,G b1=some (.cells w 31)/\DV G w aM
 q2:∃w,G b2=some (.cells w 31)/\DV G w (dia (tv 0))
 q5:∃w,G b5=some (.cells w 31)/\DV G w (dia (leaf false))
 c:RL G c (cC nST).conds
 n:RL G n aM.1
 t:RL G t dV
 s:RL G s nST
section
variable {F G G' F1:PH} {b1 b2 b5 b6:Nat} {c n t s p:Sl}
theorem SnK.le (K:SnK F G b1 b2 b5 c n t s) (l:G.le G'):SnK F G' b1 b2 b5 c n t s:=
 ⟨aa K.lF l,K.hT.le l,by obtain ⟨w,a,b⟩:=K.q1;exact ⟨w,l _ _ a,b.le l⟩,by obtain ⟨w,a,b⟩:=K.q2;exact ⟨w,l _ _ a,b.le l⟩,by obtain ⟨w,a,b⟩:=K.q5;exact ⟨w,l _ _ a,b.le l⟩,K.c.le l,K.n.le l,K.t.le l,K.s.le l⟩
theorem SnK.gv (K:SnK F G b1 b2 b5 c n t s) {l:List Pr} (hp:RL G p l):GV G ((cC nST).arr c n t s p Sl.nil Sl.nil) (sgG l):=
 ⟨c,n,t,s,p,Sl.nil,Sl.nil,rfl,K.c,K.n,K.t,K.s,hp,RL.nil G,RL.nil G⟩
theorem BI {S:Int->Tr} {t u:Tr} (h0:S 0=t) (h1:S 1=u):ff S 2=[dia t,dia u]:=by subst h0 h1;rfl
theorem eT:Sx 2 (tv 0):=Sx.tv (by decide) (by decide)
theorem Gq {l:List Pr} (h:MG (sgG l)) (h0:l.length≠0) (h1:l.length<=3):Sz (sgG l):=h.sz (KP h0 h1)
theorem Ty (C:Int->Tr) (h:ml 2 2 sp2 (aI (sgG sp2)) C):ff C 2=[dia (tv 0),dia (tv 0)]:=by
 refine BI (iz (h.sx 0) eT.1 λc=> ?_) (iz (h.sx 1) eT.1 λc=> ?_)
 ·rw [iF,<- zW (n:=0) (.inl rfl)];exact h.iff 0 c (by decide)
 ·rw [iF,<- zW (n:=1) (.inr rfl)];exact h.iff 1 c (by decide)
theorem Tz (C:Int->Tr) (h:ml 2 2 sp3 (aI (sgG sp3)) C):ff C 2=[dia (tv 0),dia (leaf false)]:=by refine BI (iz (h.sx 0) eT.1 λc=> ?_) (t4 (h.sx 1) λc hc=>IQ ((h.iff 1 c (by decide)).1 hc));rw [iF,<- IP];exact h.iff 0 c (by decide)
theorem IC {t u:Tr} (ht:Sx 2 t) (hu:Sx 2 u):∀d∈[dia t,dia u],Fit d.1.length:=λd hd=>by
 rcases TN.1 hd with rfl|hd
 ·exact pF ht (by decide)
 ·rw [TO.1 hd];exact pF hu (by decide)
theorem Q3 (K:SnK F G b1 b2 b5 c n t s) (h:St G F1 [pt b6 (.cells ((cC nST).arr c n t s p Sl.nil Sl.nil) 37)]):rU b1 b2 b5 b6 true true (RT6 F) F1:=by unfold rU;obtain ⟨w1,q1,d1⟩:=K.q1;obtain ⟨w2,q2,d2⟩:=K.q2;obtain ⟨w5,q5,d5⟩:=K.q5;have r1:∀{G' F':PH} {As:List (Ψ)},G.le G'->St G' F' As->F'.row (Addr.mk b1 0 none) w1:=λl h=>ac (h.le _ _ (l _ _ q1));have r2:∀{G' F':PH} {As:List (Ψ)},G.le G'->St G' F' As->F'.row (Addr.mk b2 0 none) w2:=λl h=>ac (h.le _ _ (l _ _ q2));have e:=aq G;refine ⟨w2,d2.size,r2 e h,w1,d1.size,r1 e h,w1,d1.size,r1 e h,?_⟩;refine h.runv (gU 1 _) λG2 F2 l2 h=>⟨_,rfl,r1 l2 h,r1 l2 h,r2 l2 h,?_⟩;refine h.runv (gU 0 _) λG3 F3 l3 h=> ?_;replace l3:=aa l2 l3;refine ⟨_,rfl,r1 l3 h,r1 l3 h,r2 l3 h,?_⟩;refine h.runv (gU 1 _) λG4 F4 l4 h=> ?_;replace l4:=aa l3 l4;refine ⟨_,rfl,r1 l4 h,r1 l4 h,r2 l4 h,rfl,rfl,rfl,?_⟩;refine h.newG λb166 G5 F5 l5 q166 _ h=> ?_;replace l5:=aa l4 l5;have hr1:RL G5 (Sl.mk (some (Addr.mk b166 0 none)) 3 3) ([⟨false,1⟩,⟨false,0⟩,⟨false,1⟩]:List Sy):=BH (n:=2) q166 rfl rfl rfl rfl rfl;refine h.run (cU ⟨#[115]⟩ 0 hr1 (d2.le l5)) λ_ G6 F6 hv6 l6 h=> ?_;obtain ⟨v6,rfl,hv6⟩:=hv6;replace l6:=aa l5 l6;refine ⟨v6,rfl,r1 l6 h,r1 l6 h,?_⟩;refine h.runv (j0 0 _) λG7 F7 l7 h=> ?_;have l67:=l7;replace l7:=aa l6 l7;refine ⟨_,rfl,r1 l7 h,r1 l7 h,rfl,?_⟩;refine h.newG λb170 G8 F8 l8 q170 _ h=> ?_;have l68:=aa l67 l8;replace l8:=aa l7 l8;have hr2:RL G8 (Sl.mk (some (Addr.mk b170 0 none)) 1 1) ([⟨true,0⟩]:List Sy):=xD q170 rfl;refine h.run (cU ⟨#[116]⟩ 0 hr2 (d1.le l8)) λ_ G9 F9 hv9 l9 h=> ?_;obtain ⟨v9,rfl,hv9⟩:=hv9;have l69:=aa l68 l9;replace l9:=aa l8 l9;refine ⟨v9,rfl,r1 l9 h,?_⟩;refine h.run (cU ⟨#[117]⟩ 1 (RL.nil G9) (d1.le l9)) λ_ G10 F10 hv10 l10 h=> ?_;obtain ⟨v10,rfl,hv10⟩:=hv10;refine ⟨v10,rfl,Mem.len hv6,Mem.len hv9,Mem.len hv10,?_⟩;refine h.newG λb174 G11 F11 l11 q174 _ h=> ?_;have l1011:=aa l10 l11;have hps:RL G11 (Sl.mk (some (Addr.mk b174 0 none)) 3 3) sp3:=BH (n:=13) q174 rfl rfl (Mem.le (aa l69 l1011) hv6) (Mem.le l1011 hv9) (Mem.le l11 hv10);replace l11:=aa l9 l1011;refine h.set0 (w':=(cC nST).arr c n t s (Sl.mk (some (Addr.mk b174 0 none)) 3 3) Sl.nil Sl.nil) (by show 5<9;decide) rfl λF12 h=> ?_;have K11:=K.le l11;refine ⟨_,rfl,ac (h.ptAt (i:=0) rfl),?_⟩;refine h.run (rJ K11.hT (K11.gv hps) (Gq zU (by decide) (by decide)) sg3.ok) λ_ G13 F13 hr l13 h=> ?_;obtain ⟨sl,ds,rfl,⟨C,hC,rfl⟩,hds⟩:=hr;rw [show ff C (sgG sp3).nons.length=[dia (tv 0),dia (leaf false)] from Tz C hC] at hds;replace l13:=aa l11 l13;refine ⟨sl,_,rfl,λ_=>⟨λ_=>⟨λ_=> ?_,λhn=>absurd rfl hn⟩,λhn=>(by cases hn)⟩,λhn=>(by cases hn)⟩;refine ⟨w2,d2.size,r2 l13 h,w5,d5.size,ac (h.le _ _ (l13 _ _ q5)),d2.size,d5.size,?_⟩;refine h.newG λb193 G14 F14 l14 q193 _ h=> ?_;have hl2:RL G14 (Sl.mk (some (Addr.mk b193 0 none)) 2 2) [dia (tv 0),dia (leaf false)]:=tS (n:=2) q193 rfl rfl (show DV G14 w2 _ from d2.le (aa l13 l14)) (show DV G14 w5 _ from d5.le (aa l13 l14));refine h.run (eY (hds.le l14) hl2 (IC eT (Sx.leaf 2 false)) (by decide)) λr G15 F15 hr l15 h=> ?_;subst hr;exact ⟨_,rfl,by rw [decide_eq_true rfl],aa K.lF (aa l13 (aa l14 (aa l15 h.le)))⟩
theorem Q4 (K:SnK F G b1 b2 b5 c n t s) (h:St G F1 [pt b6 (.cells ((cC nST).arr c n t s p Sl.nil Sl.nil) 37)]):kI b1 b2 b5 b6 true (RT6 F) F1:=by
 unfold kI;obtain ⟨w1,q1,d1⟩:=K.q1;obtain ⟨w2,q2,d2⟩:=K.q2;have r1:∀{G' F':PH} {As:List (Ψ)},G.le G'->St G' F' As->F'.row (Addr.mk b1 0 none) w1:=λl h=>ac (h.le _ _ (l _ _ q1));have r2:∀{G' F':PH} {As:List (Ψ)},G.le G'->St G' F' As->F'.row (Addr.mk b2 0 none) w2:=λl h=>ac (h.le _ _ (l _ _ q2));have e:=aq G;refine ⟨w1,d1.size,r1 e h,w2,d2.size,r2 e h,w1,d1.size,r1 e h,?_⟩;refine h.runv (gU 1 _) λG2 F2 l2 h=>⟨_,rfl,r1 l2 h,r2 l2 h,r1 l2 h,rfl,?_⟩;refine h.newG λb131 G3 F3 l3 q131 _ h=> ?_;replace l3:=aa l2 l3;have hr1:RL G3 (Sl.mk (some (Addr.mk b131 0 none)) 1 1) ([⟨false,1⟩]:List Sy):=xD q131 rfl;refine h.run (cU ⟨#[115]⟩ 0 hr1 (d1.le l3)) λ_ G6 F6 hv6 l6 h=> ?_;obtain ⟨v6,rfl,hv6⟩:=hv6;replace l6:=aa l3 l6;refine ⟨v6,rfl,r1 l6 h,r2 l6 h,?_⟩;refine h.runv (gU 0 _) λG7 F7 l7 h=> ?_;have l67:=l7;replace l7:=aa l6 l7;refine ⟨_,rfl,r1 l7 h,r2 l7 h,rfl,?_⟩;refine h.newG λb135 G8 F8 l8 q135 _ h=> ?_;have l68:=aa l67 l8;replace l8:=aa l7 l8;have hr2:RL G8 (Sl.mk (some (Addr.mk b135 0 none)) 1 1) ([⟨false,0⟩]:List Sy):=xD q135 rfl;refine h.run (cU ⟨#[116]⟩ 1 hr2 (d2.le l8)) λ_ G9 F9 hv9 l9 h=> ?_;obtain ⟨v9,rfl,hv9⟩:=hv9;have l69:=aa l68 l9;replace l9:=aa l8 l9;refine ⟨v9,rfl,r1 l9 h,?_⟩;refine h.runv (j0 0 _) λG10 F10 l10 h=> ?_;have l910:=l10;replace l10:=aa l9 l10;refine ⟨_,rfl,r1 l10 h,rfl,?_⟩;refine h.newG λb139 G11 F11 l11 q139 _ h=> ?_;have l911:=aa l910 l11;replace l11:=aa l10 l11;have hr3:RL G11 (Sl.mk (some (Addr.mk b139 0 none)) 1 1) ([⟨true,0⟩]:List Sy):=xD q139 rfl;refine h.run (cU ⟨#[117]⟩ 1 hr3 (d1.le l11)) λ_ G12 F12 hv12 l12 h=> ?_;obtain ⟨v12,rfl,hv12⟩:=hv12;have l912:=aa l911 l12;replace l12:=aa l11 l12;refine ⟨v12,rfl,Mem.len hv6,Mem.len hv9,Mem.len hv12,?_⟩;refine h.newG λb141 G13 F13 l13 q141 _ h=> ?_;have hps:RL G13 (Sl.mk (some (Addr.mk b141 0 none)) 3 3) sp2:=BH (n:=13) q141 rfl rfl (Mem.le (aa l69 (aa l912 l13)) hv6) (Mem.le (aa l912 l13) hv9) (Mem.le l13 hv12);replace l13:=aa l12 l13;refine h.set0 (w':=(cC nST).arr c n t s (Sl.mk (some (Addr.mk b141 0 none)) 3 3) Sl.nil Sl.nil) (by show 5<9;decide) rfl λF14 h=> ?_;have K13:=K.le l13;have sz:=Gq zS (by decide) (by decide);refine ⟨_,rfl,ac (h.ptAt (i:=0) rfl),?_⟩;refine h.run (rJ K13.hT (K13.gv hps) sz sg2.ok) λ_ G15 F15 hr l15 h=> ?_;obtain ⟨sl,ds,rfl,⟨C,hC,rfl⟩,hds⟩:=hr;rw [show ff C (sgG sp2).nons.length=[dia (tv 0),dia (tv 0)] from Ty C hC] at hds;have l1315:=l15;replace l15:=aa l13 l15;refine ⟨sl,_,rfl,λ_=> ?_,λhn=>absurd rfl hn⟩;refine ⟨w2,d2.size,r2 l15 h,w2,d2.size,r2 l15 h,d2.size,d2.size,?_⟩;refine h.newG λb154 G16 F16 l16 q154 _ h=> ?_;have hl2:RL G16 (Sl.mk (some (Addr.mk b154 0 none)) 2 2) [dia (tv 0),dia (tv 0)]:=tS (n:=2) q154 rfl rfl (show DV G16 w2 _ from d2.le (aa l15 l16)) (show DV G16 w2 _ from d2.le (aa l15 l16));refine h.run (eY (hds.le l16) hl2 (IC eT eT) (by decide)) λr G17 F17 hr l17 h=> ?_;subst hr;have l1317:=aa l1315 (aa l16 l17);refine ⟨_,rfl,λ_=> ?_,λhn=>(by rw [decide_eq_true rfl] at hn;cases hn)⟩;refine ⟨_,rfl,ac (h.ptAt (i:=0) rfl),?_⟩;have K17:=K13.le l1317;refine h.run (rK K17.hT (K17.gv (hps.le l1317)) sz sg2.ok) λ_ G18 F18 hr l18 h=> ?_;have hcy:kF (sgG sp2):=⟨0,λ_=>true,by decide,(zW (c:=λ_=>true) (n:=0) (.inl rfl)).2 rfl⟩;rcases hr with ⟨_,rfl⟩|⟨hn,_⟩
 ·exact ⟨_,rfl,Q3 (K17.le l18) h⟩
 ·exact absurd hcy hn
theorem ID {F:PH} (hT:Tab F):aj prog 12 #[] F (RT6 F):=by
 refine TH ?_;unfold Rj;refine (St.start F).run (fI F) λr G1 F1 hr l1 h=> ?_;obtain ⟨w1,rfl,d1⟩:=hr;refine ⟨w1,rfl,?_⟩;refine h.var d1.st (λb1 G2 F2 l2 q1 h=> ?_) rfl d1.size;replace d1:=d1.le l2;replace l2:=aa l1 l2;refine h.run (ji 0 (by decide) _) λr G3 F3 hr l3 h=> ?_;obtain ⟨w2,rfl,d2⟩:=hr;refine ⟨w2,rfl,?_⟩;refine h.var d2.st (λb2 G4 F4 l4 q2 h=> ?_) rfl d2.size;replace d2:=d2.le l4;have l24:=aa l3 l4;refine h.run (ji 1 (by decide) _) λr G5 F5 hr l5 h=> ?_;obtain ⟨w3,rfl,d3⟩:=hr;refine ⟨w3,rfl,?_⟩;refine h.var d3.st (λb3 G6 F6 l6 q3 h=> ?_) rfl d3.size;replace d3:=d3.le l6;have l46:=aa l5 l6;refine ⟨w2,d2.size,ac (h.le _ _ (l46 _ _ q2)),w3,d3.size,ac (h.le _ _ q3),?_⟩;have tv1_ok:Sx 2 (tv 1):=Sx.tv (by decide) (by decide);refine h.run (P:=λr G'=>∃u,r=.agg u/\DV G' u (dia rS)) ((kv (d2.le l46) d3 (eT.f2 tv1_ok (by decide))).mono λ_ _ ⟨w,h1,h2,h3⟩=>⟨⟨w,h1,h2⟩,h3⟩) λ_ G7 F7 hr l7 h=> ?_;obtain ⟨w4,rfl,d4⟩:=hr;refine ⟨w4,rfl,?_⟩;refine h.var d4.st (λb4 G8 F8 l8 q4 h=> ?_) rfl d4.size;replace d4:=d4.le l8;have l68:=aa l7 l8;refine h.run (P:=λr G'=>∃u,r=.agg u/\DV G' u (dia (leaf false))) ((dn false).mono λ_ _ ⟨w,h1,h2,h3⟩=>⟨⟨w,h1,h2⟩,h3⟩) λ_ G9 F9 hr l9 h=> ?_;obtain ⟨w5,rfl,d5⟩:=hr;refine ⟨w5,rfl,?_⟩;refine h.var d5.st (λb5 G10 F10 l10 q5 h=> ?_) rfl d5.size;replace d5:=d5.le l10;have l810:=aa l9 l10;refine h.newG λb26 G11 F11 l11 q26 _ h=> ?_;have hns:RL G11 (Sl.mk (some (Addr.mk b26 0 none)) 2 2) nST:=RL.strs.2 (RdS.new q26 rfl rfl (TT _));refine h.run (mD hns) λ_ G12 F12 hr l12 h=> ?_;obtain ⟨c,n,t,rfl,hc,hn,ht,hs⟩:=hr;refine ⟨_,rfl,?_⟩;refine h.new λb6 F13 h=> ?_;refine h.put0 (w':=(cC nST).arr c n t (Sl.mk (some (Addr.mk b26 0 none)) 2 2) Sl.nil Sl.nil Sl.nil) rfl rfl (by simp [al,Sl.v]) λF14 h=> ?_;have l1012:=aa l11 l12;have l812:=aa l810 l1012;have l612:=aa l68 l812;have l412:=aa l46 l612;have l212:=aa l24 l412;have l012:=aa l2 l212;have K:SnK F G12 b1 b2 b5 c n t (Sl.mk (some (Addr.mk b26 0 none)) 2 2):=⟨l012,hT.le l012,⟨w1,l212 _ _ q1,d1.le l212⟩,⟨w2,l412 _ _ q2,d2.le l412⟩,⟨w5,l1012 _ _ q5,d5.le l1012⟩,hc,hn,ht,hs⟩;generalize Sl.mk (some (Addr.mk b26 0 none)) 2 2=s at*;replace q1:=l212 _ _ q1;replace d1:=d1.le l212;replace q2:=l412 _ _ q2;replace d2:=d2.le l412;replace q3:=l612 _ _ q3;replace d3:=d3.le l612;replace q4:=l812 _ _ q4;replace d4:=d4.le l812;have r1:∀{G' F':PH} {As:List (Ψ)},G12.le G'->St G' F' As->F'.row (Addr.mk b1 0 none) w1:=λl h=>ac (h.le _ _ (l _ _ q1));have r2:∀{G' F':PH} {As:List (Ψ)},G12.le G'->St G' F' As->F'.row (Addr.mk b2 0 none) w2:=λl h=>ac (h.le _ _ (l _ _ q2));have r3:∀{G' F':PH} {As:List (Ψ)},G12.le G'->St G' F' As->F'.row (Addr.mk b3 0 none) w3:=λl h=>ac (h.le _ _ (l _ _ q3));have e:=aq G12;refine ⟨w1,d1.size,r1 e h,w2,d2.size,r2 e h,w3,d3.size,r3 e h,?_⟩;refine h.runv (j0 0 _) λG13 F15 l13 h=>⟨_,rfl,r3 l13 h,r2 l13 h,r1 l13 h,?_⟩;refine h.runv (gU 1 _) λG14 F16 l14 h=> ?_;replace l14:=aa l13 l14;refine ⟨_,rfl,r3 l14 h,r2 l14 h,r1 l14 h,rfl,rfl,?_⟩;refine h.newG λb31 G15 F17 l15 q31 _ h=> ?_;replace l15:=aa l14 l15;have hr1:RL G15 (Sl.mk (some (Addr.mk b31 0 none)) 2 2) ([⟨true,0⟩,⟨false,1⟩]:List Sy):=tS (n:=2) q31 rfl rfl rfl rfl;refine h.run (cU ⟨#[115]⟩ 0 hr1 (d1.le l15)) λ_ G16 F18 hv1 l16 h=> ?_;obtain ⟨v1,rfl,hv1⟩:=hv1;replace l16:=aa l15 l16;refine ⟨v1,rfl,r3 l16 h,r2 l16 h,?_⟩;refine h.run (cU ⟨#[116]⟩ 1 (RL.nil G16) (d2.le l16)) λ_ G17 F19 hv2 l17 h=> ?_;obtain ⟨v2,rfl,hv2⟩:=hv2;have m17:=l17;replace l17:=aa l16 l17;refine ⟨v2,rfl,r3 l17 h,?_⟩;refine h.runv (j0 1 _) λG18 F20 l18 h=> ?_;have m18:=l18;replace l18:=aa l17 l18;refine ⟨_,rfl,r3 l18 h,?_⟩;refine h.runv (gU 1 _) λG19 F21 l19 h=> ?_;have m19:=aa m18 l19;replace l19:=aa l18 l19;refine ⟨_,rfl,r3 l19 h,rfl,rfl,?_⟩;refine h.newG λb38 G20 F22 l20 q38 _ h=> ?_;have m20:=aa m19 l20;replace l20:=aa l19 l20;have hr3:RL G20 (Sl.mk (some (Addr.mk b38 0 none)) 2 2) ([⟨true,1⟩,⟨false,1⟩]:List Sy):=tS (n:=2) q38 rfl rfl rfl rfl;refine h.run (cU ⟨#[117]⟩ 1 hr3 (d3.le l20)) λ_ G21 F23 hv3 l21 h=> ?_;obtain ⟨v3,rfl,hv3⟩:=hv3;have m21:=aa m20 l21;replace l21:=aa l20 l21;refine ⟨v3,rfl,Mem.len hv1,Mem.len hv2,Mem.len hv3,?_⟩;refine h.newG λb40 G22 F24 l22 q40 _ h=> ?_;have m22:=aa m21 l22;have hps:RL G22 (Sl.mk (some (Addr.mk b40 0 none)) 3 3) sp1:=BH (n:=13) q40 rfl rfl (Mem.le (aa m17 m22) hv1) (Mem.le m22 hv2) (Mem.le l22 hv3);replace l22:=aa l21 l22;refine h.set0 (w':=(cC nST).arr c n t s (Sl.mk (some (Addr.mk b40 0 none)) 3 3) Sl.nil Sl.nil) (by show 5<9;decide) rfl λF25 h=> ?_;have K22:=K.le l22;have gv22:=K22.gv hps;have sz:=Gq zR (by decide) (by decide);have hk:=sg1.ok;have hl:∀x∈(sgG sp1).prods,x.right.length<=1000000:=by decide
 have hp:(sgG sp1).prods.length<=1000000:=by decide
 have hns2:(sgG sp1).nons.length<=1000000:=by decide
 have hts2:(sgG sp1).toks.length<=1000000:=by decide
 refine ⟨_,rfl,ac (h.ptAt (i:=0) rfl),?_⟩;refine h.run (mj K22.hT gv22 sz hk hl hp hns2) λ_ G23 F26 hr l23 h=> ?_;obtain ⟨sl1,S1,rfl,i1,h1⟩:=hr;refine ⟨sl1,_,rfl,_,rfl,ac (h.ptAt (i:=0) rfl),?_⟩;refine h.run (jf (K22.le l23).hT (gv22.le l23) sz hk hl hp hns2) λ_ G24 F27 hr l24 h=> ?_;obtain ⟨sl2,S2,rfl,i2,h2⟩:=hr;have n24:=aa l23 l24;refine ⟨sl2,_,rfl,_,rfl,ac (h.ptAt (i:=0) rfl),?_⟩;refine h.run (tY (K22.le n24).hT (gv22.le n24) sz hk hl hp hts2 hns2) λ_ G25 F28 hr l25 h=> ?_;obtain ⟨sl3,rows,rfl,⟨S3,i3,rfl⟩,h3⟩:=hr;have n25:=aa n24 l25;refine ⟨sl3,_,rfl,_,rfl,ac (h.ptAt (i:=0) rfl),?_⟩;refine h.run (rC (K22.le n25).hT (gv22.le n25) sz hk hl hp) λ_ G26 F29 hr l26 h=> ?_;obtain ⟨sl4,us,rfl,⟨U,i4,rfl⟩,h4⟩:=hr;have n26:=aa n25 l26;have o26:=aa l22 n26;refine ⟨sl4,_,rfl,λhn=>absurd rfl hn,λ_=>⟨λhn=>absurd rfl hn,λ_=>⟨λhn=>absurd rfl hn,λ_=>⟨λhn=>absurd rfl hn,λ_=> ?_⟩⟩⟩⟩;have el3:sl3.len=2:=h3.len (by decide);have el4:sl4.len=3:=h4.len (by decide);have et:t.len=11:=K.t.len (by decide);refine ⟨λhn=>absurd (by rw [el3];rfl) hn,λ_=> ?_⟩;refine ixc (h3.le l26) (by decide) (by omega) (by rw [el3];decide) λa83 c83 row hrow hrw hc83=> ?_;have hrow':(jj S3 (sgG sp1).toks.length (sgG sp1).nons.length)[1]? =some row:=hrow;obtain rfl:row=mv S3 11 1:=(Ug hrow').symm;obtain ⟨sr,rfl,hsr⟩:=hc83;have elr:sr.len=11:=by have:=hsr.len (by decide);rw [this];unfold mv;rw [T1,Uq]
 have c84:∀{G' F':PH} {As:List (Ψ)},G26.le G'->St G' F' As->F'.cell (Addr.add a83 (Int.toNat (1:Int)*1))=some (Sl.v sr):=λl h=>aS (aW (aa l h.le) hrw) rfl;have e26:=aq G26;refine ⟨sr,c84 e26 h,t,ld (h.ptAt (i:=0) rfl) rfl,λhn=>absurd (by rw [elr,et]) hn,λ_=>⟨λhn=>absurd (by rw [el4];rfl) hn,λ_=> ?_⟩⟩;refine ⟨w5,d5.size,ac (h.le _ _ (o26 _ _ (l1012 _ _ q5))),w2,d2.size,r2 o26 h,d5.size,d2.size,?_⟩;refine h.newG λb99 G27 F30 l27 q99 _ h=> ?_;have o27:=aa o26 l27;have hl99:RL G27 (Sl.mk (some (Addr.mk b99 0 none)) 2 2) [dia (leaf false),dia (tv 0)]:=tS (n:=2) q99 rfl rfl (show DV G27 w5 _ from d5.le (aa l1012 o27)) (show DV G27 w2 _ from d2.le o27);have z1:ff S1 (sgG sp1).nons.length=[dia (leaf false),dia (tv 0)]:=BI (t4 (i1.sx 0) λc hc=>IN ((i1.iff 0 c).1 hc)) (iz (i1.sx 1) eT.1 λc=>by rw [i1.iff,iF];exact ⟨rR,jJ⟩);have z2:ff S2 (sgG sp1).nons.length=[dia (tv 0),dia (tv 0)]:=BI (iz (i2.sx 0) eT.1 λc=>by rw [i2.iff,iF];exact ⟨rR,IM⟩) (iz (i2.sx 1) eT.1 λc=>by rw [i2.iff,iF];exact ⟨rR,λh=>(jJ h).up⟩);rw [z1] at h1;rw [z2] at h2;refine h.run (eY (h1.le (aa l24 (aa l25 (aa l26 l27)))) hl99 (IC (Sx.leaf 2 false) eT) (by decide)) λr G28 F31 hr l28 h=> ?_;subst hr;have o28:=aa o27 l28;refine ⟨_,rfl,λ_=> ?_,λhn=>(by rw [decide_eq_true rfl] at hn;cases hn)⟩;refine ⟨w2,d2.size,r2 o28 h,w2,d2.size,r2 o28 h,d2.size,d2.size,?_⟩;refine h.newG λb105 G29 F32 l29 q105 _ h=> ?_;have o29:=aa o28 l29;have hl105:RL G29 (Sl.mk (some (Addr.mk b105 0 none)) 2 2) [dia (tv 0),dia (tv 0)]:=tS (n:=2) q105 rfl rfl (show DV G29 w2 _ from d2.le o29) (show DV G29 w2 _ from d2.le o29);refine h.run (eY (h2.le (aa l25 (aa l26 (aa l27 (aa l28 l29))))) hl105 (IC eT eT) (by decide)) λr G30 F33 hr l30 h=> ?_;subst hr;have o30:=aa o29 l30;have p30:=aa l27 (aa l28 (aa l29 l30));refine ⟨_,rfl,λ_=> ?_,λhn=>(by rw [decide_eq_true rfl] at hn;cases hn)⟩;refine ixc (h3.le (aa l26 p30)) (by decide) (by omega) (by rw [el3];decide) λa110 c110 row2 hrow2 hrw2 hc110=> ?_;have hrow2':(jj S3 (sgG sp1).toks.length (sgG sp1).nons.length)[1]? =some row2:=hrow2;obtain rfl:row2=mv S3 11 1:=(Ug hrow2').symm;obtain ⟨sr2,rfl,hsr2⟩:=hc110;have c110:∀{G' F':PH} {As:List (Ψ)},G30.le G'->St G' F' As->F'.cell (Addr.add a110 (Int.toNat (1:Int)*1))=some (Sl.v sr2):=λl h=>aS (aW (aa l h.le) hrw2) rfl;have elr2:sr2.len=11:=by have:=hsr2.len (by decide);rw [this];unfold mv;rw [T1,Uq]
 refine ⟨sr2,c110 (aq _) h,?_⟩;refine ixc hsr2 (by decide) (by omega) (by rw [elr2];decide) λa112 c112 dd hdd hrw112 hc112=>⟨c112,Mem.len hc112,aW h.le hrw112,w4,d4.size,ac (h.le _ _ (o30 _ _ q4)),?_⟩;have hdd':(mv S3 11 1)[1]? =some dd:=hdd;have z3:S3 ((1:Int),(1:Int))=rS:=iz (i3.sx _) pG.1 λc=>by rw [i3.iff,BN];exact MU
 obtain rfl:dd=dia rS:=by rw [<- z3];exact (Ug hdd').symm
 refine h.run (ii (show DV G30 c112 _ from hc112) (d4.le o30) (pF pG (by decide))) λr G31 F34 hr l31 h=> ?_;subst hr;have o31:=aa o30 l31;refine ⟨_,rfl,c110 l31 h,λ_=> ?_,λhn=>(by rw [decide_eq_true rfl] at hn;cases hn)⟩;refine ixc (h4.le (aa p30 l31)) (by decide) (by omega) (by rw [el4];decide) λa119 c119 du hdu hrw119 hc119=>⟨c119,Mem.len hc119,aW h.le hrw119,w4,d4.size,ac (h.le _ _ (o31 _ _ q4)),?_⟩;have hdu':(xv U (sgG sp1).prods.length)[2]? =some du:=hdu;have efam:tre (sgG sp1).fam=leaf true:=fE (t:=leaf true) trivial;have z4:U 2=rS:=iz (i4.sx _) pG.1 λc=>by rw [i4.iff 2 c (by decide),BN,efam];exact MV
 obtain rfl:du=dia rS:=by rw [<- z4];exact (Ug hdu').symm
 refine h.run (ii (show DV G31 c119 _ from hc119) (d4.le o31) (pF pG (by decide))) λr G32 F35 hr l32 h=> ?_;subst hr;refine ⟨_,rfl,c110 (aa l31 l32) h,λ_=> ?_,λhn=>(by rw [decide_eq_true rfl] at hn;cases hn)⟩;refine ⟨_,rfl,ac (h.ptAt (i:=0) rfl),?_⟩;have n32:=aa n26 (aa p30 (aa l31 l32));refine h.run (rK (K22.le n32).hT (gv22.le n32) sz hk) λ_ G33 F36 hr l33 h=> ?_;have hno:¬kF (sgG sp1):=by rintro ⟨m,c,_,tg⟩;obtain ⟨d,hd⟩:=tg.head;exact MW hd
 rcases hr with ⟨hc,_⟩|⟨_,rfl⟩
 ·exact absurd hc hno
 ·exact ⟨_,rfl,c110 (aa l31 (aa l32 l33)) h,Q4 ((K22.le n32).le l33) h⟩
end
section
end
section
end
section
end
section
end
section
end
abbrev PrQ:=Nat×Nat
section
end
section
end
end Go.Proofs.YtcemhghkipgdiaaGreatDoor
namespace Go.Proofs.YtcemhghkipgdiaaGreatDoor
set_option maxRecDepth 10000
structure Two where
 acc:PrQ->Nat->Prop
 lnk:PrQ->PrQ->Prop
 ini:PrQ->Prop
 fin:PrQ->Prop
namespace Two
end Two
section
end
section
end
end Go.Proofs.YtcemhghkipgdiaaGreatDoor
namespace Go.Proofs.YtcemhghkipgdiaaGreatDoor
open Go Go.Proofs.Tryz
set_option maxRecDepth 10000
section
end
section
end
section
end
section
end
end Go.Proofs.YtcemhghkipgdiaaGreatDoor
namespace Go.Proofs.YtcemhghkipgdiaaGreatDoor
open Go Go.Proofs.Tryz Tr
set_option maxRecDepth 10000
section
end
section
end
section
end
section
end
section
variable {F:PH} {v:Γ}
theorem BJ {t:Tr} (ha:DV F v (dia t)) (ht:t.ok) (hf:(aF t).length<=4096) {c:Int} (h0:0<=c) (h1:c<18446744073709551616):aj prog 158 #[.agg v,.int .u64 c] F λr F'=>r=.bool (t.ev (cfg c))/\F.le F':=by
 obtain ⟨s,rfl,hr⟩:=ha;have hT:=bi ht;have hr':RdS F s 3 (aV (brs (aF t))):=hr;have hlen:=hr'.blen;rw [aL] at hlen;refine PI ?_;unfold Kf;intro b2 hb2;refine atI ?_;have l2:=ae (.cells #[s.v,vi (dia t).2] 31) hb2;have q2:=ak F b2 (.cells #[s.v,vi (dia t).2] 31);generalize F.set b2 (.cells #[s.v,vi (dia t).2] 31)=F3 at*;refine ⟨(num (aF t) t:Int),by rw [am q2];rfl,?_⟩;refine ⟨λm i F'=>∃t',i=(num (aF t) t':Int)/\inn (aF t) t'/\m=t'.sz/\F3.le F'/\t'.ev (cfg c)=t.ev (cfg c),t.sz,⟨t,rfl,bx ht,rfl,PH.le_rfl,rfl⟩,?_⟩;rintro m i F4 ⟨t',rfl,hin,rfl,l4,hev⟩;unfold Bi;refine ⟨λhlt=> ?_,λhge=> ?_⟩
 ·cases t' with
  |leaf x=>have:=cx (aF t) x;omega
  |node w l r=>
   obtain ⟨il,ir⟩:=hT.inn_kids hin;obtain ⟨o1,_⟩:=hT.inn_ok hin;have hg:=cJ (S:=aF t) (t:=node w l r) rfl;have hnl:=dc hin;have hw:=nT (n:=num (aF t) (node w l r)) (by omega) hg;obtain ⟨p,hp,hrow,_⟩:=rdb (hr'.le (l2.trans l4)) (gX (eD (bV hin rfl) rfl));refine ⟨s,by rw [am (l4 _ _ q2)];rfl,p,hp,by rw [hw];omega,by rw [hw];omega,aR (br (aF t) (node w l r)),rfl,by rw [hw];exact hrow,?_⟩;intro b6 hb6;refine atI ?_;refine stW (ak _ _ _) rfl rfl (f8 _) ?_;rw [aX];have l6:=l4.trans (ae (.cells (aR (br (aF t) (node w l r))) 124) hb6);refine ⟨(w:Int),by rw [am (ak _ _ _)];rfl,by rw [gb (by omega) (by omega)];omega,λhb=> ?_,λhb=> ?_⟩
   ·rw [gb (x:=(w:Int)) (by omega) (by omega)] at hb;have hb':=(ly h0 h1 o1).1 hb;refine ⟨_,by rw [am (ak _ _ _)];rfl,r.sz,by simp only [sz];omega,r,rfl,ir,rfl,l6,?_⟩;rw [<- hev];simp [Tr.ev,hb']
   ·have hb':¬cfg c w=true:=λhc=>hb (by rw [gb (x:=(w:Int)) (by omega) (by omega)];exact (ly h0 h1 o1).2 hc);refine ⟨_,by rw [am (ak _ _ _)];rfl,l.sz,by simp only [sz];omega,l,rfl,il,rfl,l6,?_⟩;rw [<- hev];simp [Tr.ev,hb']
 ·unfold Bh;refine ⟨?_,l2.trans l4⟩;rw [<- hev];cases t' with
  |leaf x=>cases x<;>simp [num,Tr.ev]
  |node w l r=>have:=cJ (S:=aF t) (t:=node w l r) rfl;omega
end
abbrev Ps (α:Type):=Δ->Option (α×Δ)
section
end
section
end
section
end
section
end
section
end
end Go.Proofs.YtcemhghkipgdiaaGreatDoor
