/-
  FactsErrors: for a grammar that is not valid all functions return the error of Check.
-/
import Derived.Test.YtcemhghkipgdiaaGreatDoorCd
import Derived.Test.YtcemhghkipgdiaaGreatDoorAz
import Derived.Test.YtcemhghkipgdiaaGreatDoorGkoineref05
import Derived.Test.YtcemhghkipgdiaaGreatDoorQr
import Derived.Test.YtcemhghkipgdiaaGreatDoorQk
import Derived.Test.YtcemhghkipgdiaaGreatDoorEd
import Derived.Test.YtcemhghkipgdiaaGreatDoorPhm
import Derived.Test.YtcemhghkipgdiaaGreatDoorIo
import Derived.Test.YtcemhghkipgdiaaGreatDoorAb
import Derived.Test.YtcemhghkipgdiaaGreatDoorGbits
import Derived.Test.YtcemhghkipgdiaaGreatDoorEr
import Derived.Test.YtcemhghkipgdiaaGreatDoorEx
import Derived.Test.YtcemhghkipgdiaaGreatDoorHr
import Derived.Test.YtcemhghkipgdiaaGreatDoorAt
import Derived.Test.YtcemhghkipgdiaaGreatDoorAm
namespace Go.Proofs.YtcemhghkipgdiaaGreatDoor
open Go Go.Proofs.Tryz Tr
set_option maxRecDepth 10000
abbrev RT6 (F:PH):VR:=λr F'=>r=.bool true/\F.le F'
structure SnK (F G:PH) (b1 b2 b5:Nat) (c n t s:Sl):Prop where
 lF:F.le G
 hT:Tab G
 q1:∃w,G b1=some (.cells w 31)/\DV G w aK
 q2:∃w,G b2=some (.cells w 31)/\DV G w (dia (tv 0))
 q5:∃w,G b5=some (.cells w 31)/\DV G w (dia (leaf false))
 c:RL G c (cu nST).conds
 n:RL G n aK.1
 t:RL G t dG
 s:RL G s nST
section
variable {F G G' F1:PH} {b1 b2 b5 b6:Nat} {c n t s p:Sl}
theorem SnK.le (K:SnK F G b1 b2 b5 c n t s) (l:G.le G'):SnK F G' b1 b2 b5 c n t s:=
 ⟨aa K.lF l,K.hT.le l,by obtain ⟨w,a,b⟩:=K.q1;exact ⟨w,l _ _ a,b.le l⟩,by obtain ⟨w,a,b⟩:=K.q2;exact ⟨w,l _ _ a,b.le l⟩,by obtain ⟨w,a,b⟩:=K.q5;exact ⟨w,l _ _ a,b.le l⟩,K.c.le l,K.n.le l,K.t.le l,K.s.le l⟩
theorem SnK.gv (K:SnK F G b1 b2 b5 c n t s) {l:List Pr} (hp:RL G p l):GV G ((cu nST).arr c n t s p Sl.nil Sl.nil) (sgG l):=
 ⟨c,n,t,s,p,Sl.nil,Sl.nil,rfl,K.c,K.n,K.t,K.s,hp,RL.nil G,RL.nil G⟩
theorem zH {S:Int->Tr} {t u:Tr} (h0:S 0=t) (h1:S 1=u):fJ S 2=[dia t,dia u]:=by subst h0 h1;rfl
theorem eD:Sx 2 (tv 0):=Sx.tv (by decide) (by decide)
theorem DC {l:List Pr} (h:MG (sgG l)) (h0:l.length≠0) (h1:l.length<=3):Sz (sgG l):=h.sz (Iy h0 h1)
theorem Qm (C:Int->Tr) (h:lw 2 2 sp2 (aH (sgG sp2)) C):fJ C 2=[dia (tv 0),dia (tv 0)]:=by
 refine zH (gU (h.sx 0) eD.1 λc=> ?_) (gU (h.sx 1) eD.1 λc=> ?_)
 ·rw [ic,<- xP (n:=0) (.inl rfl)];exact h.iff 0 c (by decide)
 ·rw [ic,<- xP (n:=1) (.inr rfl)];exact h.iff 1 c (by decide)
theorem Qn (C:Int->Tr) (h:lw 2 2 sp3 (aH (sgG sp3)) C):fJ C 2=[dia (tv 0),dia (leaf false)]:=by refine zH (gU (h.sx 0) eD.1 λc=> ?_) (sm (h.sx 1) λc hc=>FZ ((h.iff 1 c (by decide)).1 hc));rw [ic,<- FY];exact h.iff 0 c (by decide)
theorem FQ {t u:Tr} (ht:Sx 2 t) (hu:Sx 2 u):∀d∈[dia t,dia u],Fit d.1.length:=λd hd=>by
 rcases QU.1 hd with rfl|hd
 ·exact oD ht (by decide)
 ·rw [QV.1 hd];exact oD hu (by decide)
theorem Of (K:SnK F G b1 b2 b5 c n t s) (h:St G F1 [pt b6 (.cells ((cu nST).arr c n t s p Sl.nil Sl.nil) 37)]):qx b1 b2 b5 b6 true true (RT6 F) F1:=by unfold qx;obtain ⟨w1,q1,d1⟩:=K.q1;obtain ⟨w2,q2,d2⟩:=K.q2;obtain ⟨w5,q5,d5⟩:=K.q5;have r1:∀{G' F':PH} {As:List (Ψ)},G.le G'->St G' F' As->F'.row (Addr.mk b1 0 none) w1:=λl h=>ac (h.le _ _ (l _ _ q1));have r2:∀{G' F':PH} {As:List (Ψ)},G.le G'->St G' F' As->F'.row (Addr.mk b2 0 none) w2:=λl h=>ac (h.le _ _ (l _ _ q2));have e:=aq G;refine ⟨w2,d2.size,r2 e h,w1,d1.size,r1 e h,w1,d1.size,r1 e h,?_⟩;refine h.runv (gH 1 _) λG2 F2 l2 h=>⟨_,rfl,r1 l2 h,r1 l2 h,r2 l2 h,?_⟩;refine h.runv (gH 0 _) λG3 F3 l3 h=> ?_;replace l3:=aa l2 l3;refine ⟨_,rfl,r1 l3 h,r1 l3 h,r2 l3 h,?_⟩;refine h.runv (gH 1 _) λG4 F4 l4 h=> ?_;replace l4:=aa l3 l4;refine ⟨_,rfl,r1 l4 h,r1 l4 h,r2 l4 h,rfl,rfl,rfl,?_⟩;refine h.newG λb166 G5 F5 l5 q166 _ h=> ?_;replace l5:=aa l4 l5;have hr1:RL G5 (Sl.mk (some (Addr.mk b166 0 none)) 3 3) ([⟨false,1⟩,⟨false,0⟩,⟨false,1⟩]:List Sy):=zJ (n:=2) q166 rfl rfl rfl rfl rfl;refine h.run (cM ⟨#[115]⟩ 0 hr1 (d2.le l5)) λ_ G6 F6 hv6 l6 h=> ?_;obtain ⟨v6,rfl,hv6⟩:=hv6;replace l6:=aa l5 l6;refine ⟨v6,rfl,r1 l6 h,r1 l6 h,?_⟩;refine h.runv (jz 0 _) λG7 F7 l7 h=> ?_;have l67:=l7;replace l7:=aa l6 l7;refine ⟨_,rfl,r1 l7 h,r1 l7 h,rfl,?_⟩;refine h.newG λb170 G8 F8 l8 q170 _ h=> ?_;have l68:=aa l67 l8;replace l8:=aa l7 l8;have hr2:RL G8 (Sl.mk (some (Addr.mk b170 0 none)) 1 1) ([⟨true,0⟩]:List Sy):=zI q170 rfl;refine h.run (cM ⟨#[116]⟩ 0 hr2 (d1.le l8)) λ_ G9 F9 hv9 l9 h=> ?_;obtain ⟨v9,rfl,hv9⟩:=hv9;have l69:=aa l68 l9;replace l9:=aa l8 l9;refine ⟨v9,rfl,r1 l9 h,?_⟩;refine h.run (cM ⟨#[117]⟩ 1 (RL.nil G9) (d1.le l9)) λ_ G10 F10 hv10 l10 h=> ?_;obtain ⟨v10,rfl,hv10⟩:=hv10;refine ⟨v10,rfl,Mem.len hv6,Mem.len hv9,Mem.len hv10,?_⟩;refine h.newG λb174 G11 F11 l11 q174 _ h=> ?_;have l1011:=aa l10 l11;have hps:RL G11 (Sl.mk (some (Addr.mk b174 0 none)) 3 3) sp3:=zJ (n:=13) q174 rfl rfl (Mem.le (aa l69 l1011) hv6) (Mem.le l1011 hv9) (Mem.le l11 hv10);replace l11:=aa l9 l1011;refine h.set0 (w':=(cu nST).arr c n t s (Sl.mk (some (Addr.mk b174 0 none)) 3 3) Sl.nil Sl.nil) (by show 5<9;decide) rfl λF12 h=> ?_;have K11:=K.le l11;refine ⟨_,rfl,ac (h.ptAt (i:=0) rfl),?_⟩;refine h.run (qz K11.hT (K11.gv hps) (DC xN (by decide) (by decide)) sg3.ok) λ_ G13 F13 hr l13 h=> ?_;obtain ⟨sl,ds,rfl,⟨C,hC,rfl⟩,hds⟩:=hr;rw [show fJ C (sgG sp3).nons.length=[dia (tv 0),dia (leaf false)] from Qn C hC] at hds;replace l13:=aa l11 l13;refine ⟨sl,_,rfl,λ_=>⟨λ_=>⟨λ_=> ?_,λhn=>absurd rfl hn⟩,λhn=>(by cases hn)⟩,λhn=>(by cases hn)⟩;refine ⟨w2,d2.size,r2 l13 h,w5,d5.size,ac (h.le _ _ (l13 _ _ q5)),d2.size,d5.size,?_⟩;refine h.newG λb193 G14 F14 l14 q193 _ h=> ?_;have hl2:RL G14 (Sl.mk (some (Addr.mk b193 0 none)) 2 2) [dia (tv 0),dia (leaf false)]:=sj (n:=2) q193 rfl rfl (show DV G14 w2 _ from d2.le (aa l13 l14)) (show DV G14 w5 _ from d5.le (aa l13 l14));refine h.run (eM (hds.le l14) hl2 (FQ eD (Sx.leaf 2 false)) (by decide)) λr G15 F15 hr l15 h=> ?_;subst hr;exact ⟨_,rfl,by rw [decide_eq_true rfl],aa K.lF (aa l13 (aa l14 (aa l15 h.le)))⟩
theorem Og (K:SnK F G b1 b2 b5 c n t s) (h:St G F1 [pt b6 (.cells ((cu nST).arr c n t s p Sl.nil Sl.nil) 37)]):jN b1 b2 b5 b6 true (RT6 F) F1:=by
 unfold jN;obtain ⟨w1,q1,d1⟩:=K.q1;obtain ⟨w2,q2,d2⟩:=K.q2;have r1:∀{G' F':PH} {As:List (Ψ)},G.le G'->St G' F' As->F'.row (Addr.mk b1 0 none) w1:=λl h=>ac (h.le _ _ (l _ _ q1));have r2:∀{G' F':PH} {As:List (Ψ)},G.le G'->St G' F' As->F'.row (Addr.mk b2 0 none) w2:=λl h=>ac (h.le _ _ (l _ _ q2));have e:=aq G;refine ⟨w1,d1.size,r1 e h,w2,d2.size,r2 e h,w1,d1.size,r1 e h,?_⟩;refine h.runv (gH 1 _) λG2 F2 l2 h=>⟨_,rfl,r1 l2 h,r2 l2 h,r1 l2 h,rfl,?_⟩;refine h.newG λb131 G3 F3 l3 q131 _ h=> ?_;replace l3:=aa l2 l3;have hr1:RL G3 (Sl.mk (some (Addr.mk b131 0 none)) 1 1) ([⟨false,1⟩]:List Sy):=zI q131 rfl;refine h.run (cM ⟨#[115]⟩ 0 hr1 (d1.le l3)) λ_ G6 F6 hv6 l6 h=> ?_;obtain ⟨v6,rfl,hv6⟩:=hv6;replace l6:=aa l3 l6;refine ⟨v6,rfl,r1 l6 h,r2 l6 h,?_⟩;refine h.runv (gH 0 _) λG7 F7 l7 h=> ?_;have l67:=l7;replace l7:=aa l6 l7;refine ⟨_,rfl,r1 l7 h,r2 l7 h,rfl,?_⟩;refine h.newG λb135 G8 F8 l8 q135 _ h=> ?_;have l68:=aa l67 l8;replace l8:=aa l7 l8;have hr2:RL G8 (Sl.mk (some (Addr.mk b135 0 none)) 1 1) ([⟨false,0⟩]:List Sy):=zI q135 rfl;refine h.run (cM ⟨#[116]⟩ 1 hr2 (d2.le l8)) λ_ G9 F9 hv9 l9 h=> ?_;obtain ⟨v9,rfl,hv9⟩:=hv9;have l69:=aa l68 l9;replace l9:=aa l8 l9;refine ⟨v9,rfl,r1 l9 h,?_⟩;refine h.runv (jz 0 _) λG10 F10 l10 h=> ?_;have l910:=l10;replace l10:=aa l9 l10;refine ⟨_,rfl,r1 l10 h,rfl,?_⟩;refine h.newG λb139 G11 F11 l11 q139 _ h=> ?_;have l911:=aa l910 l11;replace l11:=aa l10 l11;have hr3:RL G11 (Sl.mk (some (Addr.mk b139 0 none)) 1 1) ([⟨true,0⟩]:List Sy):=zI q139 rfl;refine h.run (cM ⟨#[117]⟩ 1 hr3 (d1.le l11)) λ_ G12 F12 hv12 l12 h=> ?_;obtain ⟨v12,rfl,hv12⟩:=hv12;have l912:=aa l911 l12;replace l12:=aa l11 l12;refine ⟨v12,rfl,Mem.len hv6,Mem.len hv9,Mem.len hv12,?_⟩;refine h.newG λb141 G13 F13 l13 q141 _ h=> ?_;have hps:RL G13 (Sl.mk (some (Addr.mk b141 0 none)) 3 3) sp2:=zJ (n:=13) q141 rfl rfl (Mem.le (aa l69 (aa l912 l13)) hv6) (Mem.le (aa l912 l13) hv9) (Mem.le l13 hv12);replace l13:=aa l12 l13;refine h.set0 (w':=(cu nST).arr c n t s (Sl.mk (some (Addr.mk b141 0 none)) 3 3) Sl.nil Sl.nil) (by show 5<9;decide) rfl λF14 h=> ?_;have K13:=K.le l13;have sz:=DC xM (by decide) (by decide);refine ⟨_,rfl,ac (h.ptAt (i:=0) rfl),?_⟩;refine h.run (qz K13.hT (K13.gv hps) sz sg2.ok) λ_ G15 F15 hr l15 h=> ?_;obtain ⟨sl,ds,rfl,⟨C,hC,rfl⟩,hds⟩:=hr;rw [show fJ C (sgG sp2).nons.length=[dia (tv 0),dia (tv 0)] from Qm C hC] at hds;have l1315:=l15;replace l15:=aa l13 l15;refine ⟨sl,_,rfl,λ_=> ?_,λhn=>absurd rfl hn⟩;refine ⟨w2,d2.size,r2 l15 h,w2,d2.size,r2 l15 h,d2.size,d2.size,?_⟩;refine h.newG λb154 G16 F16 l16 q154 _ h=> ?_;have hl2:RL G16 (Sl.mk (some (Addr.mk b154 0 none)) 2 2) [dia (tv 0),dia (tv 0)]:=sj (n:=2) q154 rfl rfl (show DV G16 w2 _ from d2.le (aa l15 l16)) (show DV G16 w2 _ from d2.le (aa l15 l16));refine h.run (eM (hds.le l16) hl2 (FQ eD eD) (by decide)) λr G17 F17 hr l17 h=> ?_;subst hr;have l1317:=aa l1315 (aa l16 l17);refine ⟨_,rfl,λ_=> ?_,λhn=>(by rw [decide_eq_true rfl] at hn;cases hn)⟩;refine ⟨_,rfl,ac (h.ptAt (i:=0) rfl),?_⟩;have K17:=K13.le l1317;refine h.run (qA K17.hT (K17.gv (hps.le l1317)) sz sg2.ok) λ_ G18 F18 hr l18 h=> ?_;have hcy:jP (sgG sp2):=⟨0,λ_=>true,by decide,(xP (c:=λ_=>true) (n:=0) (.inl rfl)).2 rfl⟩;rcases hr with ⟨_,rfl⟩|⟨hn,_⟩
 ·exact ⟨_,rfl,Of (K17.le l18) h⟩
 ·exact absurd hcy hn
theorem FR {F:PH} (hT:Tab F):aj prog 12 #[] F (RT6 F):=by
 refine Qp ?_;unfold Om;refine (St.start F).run (eN F) λr G1 F1 hr l1 h=> ?_;obtain ⟨w1,rfl,d1⟩:=hr;refine ⟨w1,rfl,?_⟩;refine h.var d1.st (λb1 G2 F2 l2 q1 h=> ?_) rfl d1.size;replace d1:=d1.le l2;replace l2:=aa l1 l2;refine h.run (iQ 0 (by decide) _) λr G3 F3 hr l3 h=> ?_;obtain ⟨w2,rfl,d2⟩:=hr;refine ⟨w2,rfl,?_⟩;refine h.var d2.st (λb2 G4 F4 l4 q2 h=> ?_) rfl d2.size;replace d2:=d2.le l4;have l24:=aa l3 l4;refine h.run (iQ 1 (by decide) _) λr G5 F5 hr l5 h=> ?_;obtain ⟨w3,rfl,d3⟩:=hr;refine ⟨w3,rfl,?_⟩;refine h.var d3.st (λb3 G6 F6 l6 q3 h=> ?_) rfl d3.size;replace d3:=d3.le l6;have l46:=aa l5 l6;refine ⟨w2,d2.size,ac (h.le _ _ (l46 _ _ q2)),w3,d3.size,ac (h.le _ _ q3),?_⟩;have tv1_ok:Sx 2 (tv 1):=Sx.tv (by decide) (by decide);refine h.run (P:=λr G'=>∃u,r=.agg u/\DV G' u (dia qC)) ((jB (d2.le l46) d3 (eD.f2 tv1_ok (by decide))).mono λ_ _ ⟨w,h1,h2,h3⟩=>⟨⟨w,h1,h2⟩,h3⟩) λ_ G7 F7 hr l7 h=> ?_;obtain ⟨w4,rfl,d4⟩:=hr;refine ⟨w4,rfl,?_⟩;refine h.var d4.st (λb4 G8 F8 l8 q4 h=> ?_) rfl d4.size;replace d4:=d4.le l8;have l68:=aa l7 l8;refine h.run (P:=λr G'=>∃u,r=.agg u/\DV G' u (dia (leaf false))) ((cz false).mono λ_ _ ⟨w,h1,h2,h3⟩=>⟨⟨w,h1,h2⟩,h3⟩) λ_ G9 F9 hr l9 h=> ?_;obtain ⟨w5,rfl,d5⟩:=hr;refine ⟨w5,rfl,?_⟩;refine h.var d5.st (λb5 G10 F10 l10 q5 h=> ?_) rfl d5.size;replace d5:=d5.le l10;have l810:=aa l9 l10;refine h.newG λb26 G11 F11 l11 q26 _ h=> ?_;have hns:RL G11 (Sl.mk (some (Addr.mk b26 0 none)) 2 2) nST:=RL.strs.2 (RdS.new q26 rfl rfl (QW _));refine h.run (lC hns) λ_ G12 F12 hr l12 h=> ?_;obtain ⟨c,n,t,rfl,hc,hn,ht,hs⟩:=hr;refine ⟨_,rfl,?_⟩;refine h.new λb6 F13 h=> ?_;refine h.put0 (w':=(cu nST).arr c n t (Sl.mk (some (Addr.mk b26 0 none)) 2 2) Sl.nil Sl.nil Sl.nil) rfl rfl (by simp [ak,Sl.v]) λF14 h=> ?_;have l1012:=aa l11 l12;have l812:=aa l810 l1012;have l612:=aa l68 l812;have l412:=aa l46 l612;have l212:=aa l24 l412;have l012:=aa l2 l212;have K:SnK F G12 b1 b2 b5 c n t (Sl.mk (some (Addr.mk b26 0 none)) 2 2):=⟨l012,hT.le l012,⟨w1,l212 _ _ q1,d1.le l212⟩,⟨w2,l412 _ _ q2,d2.le l412⟩,⟨w5,l1012 _ _ q5,d5.le l1012⟩,hc,hn,ht,hs⟩;generalize Sl.mk (some (Addr.mk b26 0 none)) 2 2=s at*;replace q1:=l212 _ _ q1;replace d1:=d1.le l212;replace q2:=l412 _ _ q2;replace d2:=d2.le l412;replace q3:=l612 _ _ q3;replace d3:=d3.le l612;replace q4:=l812 _ _ q4;replace d4:=d4.le l812;have r1:∀{G' F':PH} {As:List (Ψ)},G12.le G'->St G' F' As->F'.row (Addr.mk b1 0 none) w1:=λl h=>ac (h.le _ _ (l _ _ q1));have r2:∀{G' F':PH} {As:List (Ψ)},G12.le G'->St G' F' As->F'.row (Addr.mk b2 0 none) w2:=λl h=>ac (h.le _ _ (l _ _ q2));have r3:∀{G' F':PH} {As:List (Ψ)},G12.le G'->St G' F' As->F'.row (Addr.mk b3 0 none) w3:=λl h=>ac (h.le _ _ (l _ _ q3));have e:=aq G12;refine ⟨w1,d1.size,r1 e h,w2,d2.size,r2 e h,w3,d3.size,r3 e h,?_⟩;refine h.runv (jz 0 _) λG13 F15 l13 h=>⟨_,rfl,r3 l13 h,r2 l13 h,r1 l13 h,?_⟩;refine h.runv (gH 1 _) λG14 F16 l14 h=> ?_;replace l14:=aa l13 l14;refine ⟨_,rfl,r3 l14 h,r2 l14 h,r1 l14 h,rfl,rfl,?_⟩;refine h.newG λb31 G15 F17 l15 q31 _ h=> ?_;replace l15:=aa l14 l15;have hr1:RL G15 (Sl.mk (some (Addr.mk b31 0 none)) 2 2) ([⟨true,0⟩,⟨false,1⟩]:List Sy):=sj (n:=2) q31 rfl rfl rfl rfl;refine h.run (cM ⟨#[115]⟩ 0 hr1 (d1.le l15)) λ_ G16 F18 hv1 l16 h=> ?_;obtain ⟨v1,rfl,hv1⟩:=hv1;replace l16:=aa l15 l16;refine ⟨v1,rfl,r3 l16 h,r2 l16 h,?_⟩;refine h.run (cM ⟨#[116]⟩ 1 (RL.nil G16) (d2.le l16)) λ_ G17 F19 hv2 l17 h=> ?_;obtain ⟨v2,rfl,hv2⟩:=hv2;have m17:=l17;replace l17:=aa l16 l17;refine ⟨v2,rfl,r3 l17 h,?_⟩;refine h.runv (jz 1 _) λG18 F20 l18 h=> ?_;have m18:=l18;replace l18:=aa l17 l18;refine ⟨_,rfl,r3 l18 h,?_⟩;refine h.runv (gH 1 _) λG19 F21 l19 h=> ?_;have m19:=aa m18 l19;replace l19:=aa l18 l19;refine ⟨_,rfl,r3 l19 h,rfl,rfl,?_⟩;refine h.newG λb38 G20 F22 l20 q38 _ h=> ?_;have m20:=aa m19 l20;replace l20:=aa l19 l20;have hr3:RL G20 (Sl.mk (some (Addr.mk b38 0 none)) 2 2) ([⟨true,1⟩,⟨false,1⟩]:List Sy):=sj (n:=2) q38 rfl rfl rfl rfl;refine h.run (cM ⟨#[117]⟩ 1 hr3 (d3.le l20)) λ_ G21 F23 hv3 l21 h=> ?_;obtain ⟨v3,rfl,hv3⟩:=hv3;have m21:=aa m20 l21;replace l21:=aa l20 l21;refine ⟨v3,rfl,Mem.len hv1,Mem.len hv2,Mem.len hv3,?_⟩;refine h.newG λb40 G22 F24 l22 q40 _ h=> ?_;have m22:=aa m21 l22;have hps:RL G22 (Sl.mk (some (Addr.mk b40 0 none)) 3 3) sp1:=zJ (n:=13) q40 rfl rfl (Mem.le (aa m17 m22) hv1) (Mem.le m22 hv2) (Mem.le l22 hv3);replace l22:=aa l21 l22;refine h.set0 (w':=(cu nST).arr c n t s (Sl.mk (some (Addr.mk b40 0 none)) 3 3) Sl.nil Sl.nil) (by show 5<9;decide) rfl λF25 h=> ?_;have K22:=K.le l22;have gv22:=K22.gv hps;have sz:=DC xL (by decide) (by decide);have hk:=sg1.ok;have hl:∀x∈(sgG sp1).prods,x.right.length<=1000000:=by decide
 have hp:(sgG sp1).prods.length<=1000000:=by decide
 have hns2:(sgG sp1).nons.length<=1000000:=by decide
 have hts2:(sgG sp1).toks.length<=1000000:=by decide
 refine ⟨_,rfl,ac (h.ptAt (i:=0) rfl),?_⟩;refine h.run (uA K22.hT gv22 sz hk hl hp hns2) λ_ G23 F26 hr l23 h=> ?_;obtain ⟨sl1,S1,rfl,i1,h1⟩:=hr;refine ⟨sl1,_,rfl,_,rfl,ac (h.ptAt (i:=0) rfl),?_⟩;refine h.run (qP (K22.le l23).hT (gv22.le l23) sz hk hl hp hns2) λ_ G24 F27 hr l24 h=> ?_;obtain ⟨sl2,S2,rfl,i2,h2⟩:=hr;have n24:=aa l23 l24;refine ⟨sl2,_,rfl,_,rfl,ac (h.ptAt (i:=0) rfl),?_⟩;refine h.run (Bh (K22.le n24).hT (gv22.le n24) sz hk hl hp hts2 hns2) λ_ G25 F28 hr l25 h=> ?_;obtain ⟨sl3,rows,rfl,⟨S3,i3,rfl⟩,h3⟩:=hr;have n25:=aa n24 l25;refine ⟨sl3,_,rfl,_,rfl,ac (h.ptAt (i:=0) rfl),?_⟩;refine h.run (yc (K22.le n25).hT (gv22.le n25) sz hk hl hp) λ_ G26 F29 hr l26 h=> ?_;obtain ⟨sl4,us,rfl,⟨U,i4,rfl⟩,h4⟩:=hr;have n26:=aa n25 l26;have o26:=aa l22 n26;refine ⟨sl4,_,rfl,λhn=>absurd rfl hn,λ_=>⟨λhn=>absurd rfl hn,λ_=>⟨λhn=>absurd rfl hn,λ_=>⟨λhn=>absurd rfl hn,λ_=> ?_⟩⟩⟩⟩;have el3:sl3.len=2:=h3.len (by decide);have el4:sl4.len=3:=h4.len (by decide);have et:t.len=11:=K.t.len (by decide);refine ⟨λhn=>absurd (by rw [el3];rfl) hn,λ_=> ?_⟩;refine ixc (h3.le l26) (by decide) (by omega) (by rw [el3];decide) λa83 c83 row hrow hrw hc83=> ?_;have hrow':(lu S3 (sgG sp1).toks.length (sgG sp1).nons.length)[1]? =some row:=hrow;obtain rfl:row=uf S3 11 1:=(Rg hrow').symm;obtain ⟨sr,rfl,hsr⟩:=hc83;have elr:sr.len=11:=by have:=hsr.len (by decide);rw [this];unfold uf;rw [Q6,RI]
 have c84:∀{G' F':PH} {As:List (Ψ)},G26.le G'->St G' F' As->F'.cell (Addr.add a83 (Int.toNat (1:Int)*1))=some (Sl.v sr):=λl h=>aZ (bU (aa l h.le) hrw) rfl;have e26:=aq G26;refine ⟨sr,c84 e26 h,t,ld (h.ptAt (i:=0) rfl) rfl,λhn=>absurd (by rw [elr,et]) hn,λ_=>⟨λhn=>absurd (by rw [el4];rfl) hn,λ_=> ?_⟩⟩;refine ⟨w5,d5.size,ac (h.le _ _ (o26 _ _ (l1012 _ _ q5))),w2,d2.size,r2 o26 h,d5.size,d2.size,?_⟩;refine h.newG λb99 G27 F30 l27 q99 _ h=> ?_;have o27:=aa o26 l27;have hl99:RL G27 (Sl.mk (some (Addr.mk b99 0 none)) 2 2) [dia (leaf false),dia (tv 0)]:=sj (n:=2) q99 rfl rfl (show DV G27 w5 _ from d5.le (aa l1012 o27)) (show DV G27 w2 _ from d2.le o27);have z1:fJ S1 (sgG sp1).nons.length=[dia (leaf false),dia (tv 0)]:=zH (sm (i1.sx 0) λc hc=>FX ((i1.iff 0 c).1 hc)) (gU (i1.sx 1) eD.1 λc=>by rw [i1.iff,ic];exact ⟨qB,jh⟩);have z2:fJ S2 (sgG sp1).nons.length=[dia (tv 0),dia (tv 0)]:=zH (gU (i2.sx 0) eD.1 λc=>by rw [i2.iff,ic];exact ⟨qB,FW⟩) (gU (i2.sx 1) eD.1 λc=>by rw [i2.iff,ic];exact ⟨qB,λh=>(jh h).up⟩);rw [z1] at h1;rw [z2] at h2;refine h.run (eM (h1.le (aa l24 (aa l25 (aa l26 l27)))) hl99 (FQ (Sx.leaf 2 false) eD) (by decide)) λr G28 F31 hr l28 h=> ?_;subst hr;have o28:=aa o27 l28;refine ⟨_,rfl,λ_=> ?_,λhn=>(by rw [decide_eq_true rfl] at hn;cases hn)⟩;refine ⟨w2,d2.size,r2 o28 h,w2,d2.size,r2 o28 h,d2.size,d2.size,?_⟩;refine h.newG λb105 G29 F32 l29 q105 _ h=> ?_;have o29:=aa o28 l29;have hl105:RL G29 (Sl.mk (some (Addr.mk b105 0 none)) 2 2) [dia (tv 0),dia (tv 0)]:=sj (n:=2) q105 rfl rfl (show DV G29 w2 _ from d2.le o29) (show DV G29 w2 _ from d2.le o29);refine h.run (eM (h2.le (aa l25 (aa l26 (aa l27 (aa l28 l29))))) hl105 (FQ eD eD) (by decide)) λr G30 F33 hr l30 h=> ?_;subst hr;have o30:=aa o29 l30;have p30:=aa l27 (aa l28 (aa l29 l30));refine ⟨_,rfl,λ_=> ?_,λhn=>(by rw [decide_eq_true rfl] at hn;cases hn)⟩;refine ixc (h3.le (aa l26 p30)) (by decide) (by omega) (by rw [el3];decide) λa110 c110 row2 hrow2 hrw2 hc110=> ?_;have hrow2':(lu S3 (sgG sp1).toks.length (sgG sp1).nons.length)[1]? =some row2:=hrow2;obtain rfl:row2=uf S3 11 1:=(Rg hrow2').symm;obtain ⟨sr2,rfl,hsr2⟩:=hc110;have c110:∀{G' F':PH} {As:List (Ψ)},G30.le G'->St G' F' As->F'.cell (Addr.add a110 (Int.toNat (1:Int)*1))=some (Sl.v sr2):=λl h=>aZ (bU (aa l h.le) hrw2) rfl;have elr2:sr2.len=11:=by have:=hsr2.len (by decide);rw [this];unfold uf;rw [Q6,RI]
 refine ⟨sr2,c110 (aq _) h,?_⟩;refine ixc hsr2 (by decide) (by omega) (by rw [elr2];decide) λa112 c112 dd hdd hrw112 hc112=>⟨c112,Mem.len hc112,bU h.le hrw112,w4,d4.size,ac (h.le _ _ (o30 _ _ q4)),?_⟩;have hdd':(uf S3 11 1)[1]? =some dd:=hdd;have z3:S3 ((1:Int),(1:Int))=qC:=gU (i3.sx _) oE.1 λc=>by rw [i3.iff,zN];exact J8
 obtain rfl:dd=dia qC:=by rw [<- z3];exact (Rg hdd').symm
 refine h.run (gJ (show DV G30 c112 _ from hc112) (d4.le o30) (oD oE (by decide))) λr G31 F34 hr l31 h=> ?_;subst hr;have o31:=aa o30 l31;refine ⟨_,rfl,c110 l31 h,λ_=> ?_,λhn=>(by rw [decide_eq_true rfl] at hn;cases hn)⟩;refine ixc (h4.le (aa p30 l31)) (by decide) (by omega) (by rw [el4];decide) λa119 c119 du hdu hrw119 hc119=>⟨c119,Mem.len hc119,bU h.le hrw119,w4,d4.size,ac (h.le _ _ (o31 _ _ q4)),?_⟩;have hdu':(Kt U (sgG sp1).prods.length)[2]? =some du:=hdu;have efam:tre (sgG sp1).fam=leaf true:=gQ (t:=leaf true) trivial;have z4:U 2=qC:=gU (i4.sx _) oE.1 λc=>by rw [i4.iff 2 c (by decide),zN,efam];exact J9
 obtain rfl:du=dia qC:=by rw [<- z4];exact (Rg hdu').symm
 refine h.run (gJ (show DV G31 c119 _ from hc119) (d4.le o31) (oD oE (by decide))) λr G32 F35 hr l32 h=> ?_;subst hr;refine ⟨_,rfl,c110 (aa l31 l32) h,λ_=> ?_,λhn=>(by rw [decide_eq_true rfl] at hn;cases hn)⟩;refine ⟨_,rfl,ac (h.ptAt (i:=0) rfl),?_⟩;have n32:=aa n26 (aa p30 (aa l31 l32));refine h.run (qA (K22.le n32).hT (gv22.le n32) sz hk) λ_ G33 F36 hr l33 h=> ?_;have hno:¬jP (sgG sp1):=by rintro ⟨m,c,_,tg⟩;obtain ⟨d,hd⟩:=tg.head;exact Ka hd
 rcases hr with ⟨hc,_⟩|⟨_,rfl⟩
 ·exact absurd hc hno
 ·exact ⟨_,rfl,c110 (aa l31 (aa l32 l33)) h,Og ((K22.le n32).le l33) h⟩
end
section
end
section
end
section
end
section
end
section
end
abbrev PrQ:=Nat×Nat
section
end
section
end
end Go.Proofs.YtcemhghkipgdiaaGreatDoor
namespace Go.Proofs.YtcemhghkipgdiaaGreatDoor
set_option maxRecDepth 10000
structure Two where
 acc:PrQ->Nat->Prop
 lnk:PrQ->PrQ->Prop
 ini:PrQ->Prop
 fin:PrQ->Prop
namespace Two
end Two
section
end
section
end
end Go.Proofs.YtcemhghkipgdiaaGreatDoor
namespace Go.Proofs.YtcemhghkipgdiaaGreatDoor
open Go Go.Proofs.Tryz
set_option maxRecDepth 10000
section
end
section
end
section
end
section
end
end Go.Proofs.YtcemhghkipgdiaaGreatDoor
namespace Go.Proofs.YtcemhghkipgdiaaGreatDoor
open Go Go.Proofs.Tryz Tr
set_option maxRecDepth 10000
section
end
section
end
section
end
section
end
section
end
abbrev Ps (α:Type):=Δ->Option (α×Δ)
section
end
section
end
section
end
section
end
section
end
def FS:ByteArray:=⟨#[99,121,99,108,101]⟩
def A2:ByteArray:=⟨#[110,111,116,104,105,110,103]⟩
def Oh (s:ByteArray):Prop:=(s.size≠2\/s.data[0]?≠some 113)/\s≠FS/\s≠A2
instance (s:ByteArray):Decidable (Oh s):=by unfold Oh;infer_instance
section
end
theorem Oi:∃b z,SlT 50 63 2 b z:=Iz
theorem Oj:∃b z,SlT 33 55 13 b z:=⟨_,_,underlying33,LW,L3,rfl,by decide,by decide⟩
section
end
theorem Ok:∃b z,SlT 34 69 4 b z:=⟨_,_,underlying34,LY,L5,rfl,by decide,by decide⟩
section
variable {F G F1:PH} {g':Gr} {b8:Nat} {w:Γ}
theorem ud (lF:F.le G) (hT:Tab G) (hg:GV G w g') (hz:Sz g') (h:St G F1 [pt b8 (.cells w 37)]):gC true b8 (RT6 F) F1:=by unfold gC;refine ⟨w,hg.size,h.whole0,?_⟩;refine h.run (iB hT hg hz) λ_ G2 F2 hr l2 h=> ?_;rw [hr];refine ⟨_,rfl,λh0=>⟨rfl,aa lF (aa l2 h.le)⟩,λhne=> ?_⟩;refine ⟨w,hg.size,h.whole0,?_⟩;refine h.runv (we (hT.le l2) (hg.le l2) hz hne) λG3 F3 l3 h=> ?_;replace l3:=aa l2 l3;refine ⟨_,_,rfl,w,hg.size,h.whole0,?_⟩;refine h.runv (rg (hT.le l3) (hg.le l3) hz hne) λG4 F4 l4 h=> ?_;replace l4:=aa l3 l4;refine ⟨_,_,rfl,w,hg.size,h.whole0,?_⟩;refine h.runv (Bk (hT.le l4) (hg.le l4) hz hne) λG5 F5 l5 h=> ?_;replace l5:=aa l4 l5;refine ⟨_,_,rfl,w,hg.size,h.whole0,?_⟩;refine h.runv (DQ (hT.le l5) (hg.le l5) hz hne) λG6 F6 l6 h=> ?_;replace l6:=aa l5 l6;refine ⟨_,_,rfl,w,hg.size,h.whole0,?_⟩;refine h.runv (A3 (hT.le l6) (hg.le l6) hz hne) λG7 F7 l7 h=> ?_;replace l7:=aa l6 l7;refine ⟨_,_,rfl,λ_=> ?_,λhn=>(by cases hn)⟩;refine ⟨w,hg.size,h.whole0,?_⟩;refine h.runv (A4 (hT.le l7) (hg.le l7) hz hne) λG8 F8 l8 h=> ?_;refine ⟨_,rfl,λ_=>⟨λ_=>⟨λ_=>⟨λ_=>⟨λ_=>⟨λ_=> ?_,λhn=>absurd rfl hn⟩,λhn=>absurd rfl hn⟩,λhn=>absurd rfl hn⟩,λhn=>absurd rfl hn⟩,λhn=>absurd rfl hn⟩,λhn=>absurd rfl hn⟩;exact ⟨rfl,aa lF (aa l7 (aa l8 h.le))⟩
theorem St.elA {G F:PH} {As:List (Ψ)} {s:Sl} {e n k:Nat} {vs:List Γ} {c:Γ} {a:Addr} (h:St G F As) (hb:s.base=some a) (i:Nat) (hi:As[i]? =some (own s e n (cat vs))) (hn:∀d∈vs,d.size=n) (hk:vs[k]? =some c) (h0:0<n)
  {off:Nat} {v:Value} (hv:off<n) {C:Ψ} (kk:∀F',St G F' (As.set i (own s e n (cat (vs.set k (c.setIfInBounds off v)))))->C F'):
  sto F (Addr.add (Addr.add a (k*n)) off) v C:=by
 obtain ⟨a',h1,_,_,h4⟩:=h.el1 i hi hn hk h0 hv kk;rw [hb] at h1;cases h1;rw [N6] at h4;exact h4
theorem vM {v:Γ} {x:Rw} {wh:Nat} {n:Int} (hT:Tab F) (hx:zX F v x) (hw:wh<256):aj prog 7 #[.agg v,.int .u8 (wh:Int),vi n] F (RT6 F):=by
 obtain ⟨_,_,TP⟩:=Oj;obtain ⟨_,_,TS⟩:=Oi;obtain ⟨_,_,TL⟩:=Ok;refine cQ7 ?_;unfold bQ7;have hvs:v.size=5:=by obtain ⟨⟨a,b,c,rfl,_⟩,_⟩:=hx;rfl
 refine (St.start F).newG λb3 G1 F1 l1 q3 _ h=> ?_;refine h.runv (FR (hT.le l1)) λG2 F2 l2 h=>⟨_,rfl,v,hvs,ac (h.le _ _ (l2 _ _ q3)),?_⟩;have l12:=aa l1 l2;refine h.run (P:=λr G'=>∃w,r=.agg w/\GV G' w (jV x)) (uH (hx.le l12)) λ_ G3 F3 hr l3 h=> ?_;obtain ⟨w,rfl,hg⟩:=hr;have l13:=aa l12 l3;refine ⟨w,rfl,?_⟩;obtain ⟨mg,bd⟩:=Ek x;have hz:=mg.sz bd;generalize jV x=g at*;obtain ⟨c,m,t,s,p,l,f,rfl,hs⟩:=hg;obtain ⟨vp,rp,dp⟩:=id hs.p;have ep:=hs.p.len (by decide);have bp:=bd.p;have bp0:=bd.p0;refine h.new λb8 F4 h=> ?_;refine h.put0 (w':=g.arr c m t s p l f) rfl rfl (by simp [ak,Sl.v]) λF5 h=> ?_;refine h.new λb24 F6 h=> ?_;have h:=h.imp (A':=own (Sl.mk (some (Addr.mk b24 0 none)) 0 0) 55 13 []) 0 rfl λH _ hH=>ee hH;refine ⟨_,h.ld1 rfl,?_⟩;refine St.app0 TP h (dp.le h.le) rp.st (by show 0+p.len<=_;omega) λs2 F7 h hl2=> ?_;rw [Rj] at h;have e2:s2.len=g.prods.length:=by rw [hl2];show 0+p.len=_;omega
 refine h.set1 (w':=g.arr c m t s s2 l f) (by show 5<9;decide) rfl λF8 h=> ?_;refine ⟨_,h.ld1 rfl,_,h.ld1 rfl,by omega,?_⟩;have ed:Int.tdiv (wh:Int) (8:Int)=((wh / 8:Nat):Int):=by rw [RW (by omega)];omega
 have ei:Int.tmod (IntKind.i64.wrap (IntKind.u8.wrap (Int.tdiv (wh:Int) (8:Int)))) (s2.len:Int)=((wh / 8 % g.prods.length:Nat):Int):=by rw [ed,uL (show wh / 8<256 by omega),aQ (by omega) (by omega),e2,fM]
 have em:Int.tmod (wh:Int) 8=((wh % 8:Nat):Int):=fM wh 8;have hkl:wh / 8 % g.prods.length<g.prods.length:=RY _ (by omega);rw [ei,em];obtain ⟨pr,hpr⟩:∃y,g.prods[wh / 8 % g.prods.length]? =some y:=⟨_,N4 hkl⟩;have hw8:wh % 8<8:=RY _ (by decide);generalize wh / 8 % g.prods.length=k at*;generalize wh % 8=q at*;obtain ⟨wp,wp1,⟨rr,r2,r3,rfl,rr1,rr2,rr3⟩,wpd⟩:=rp.get hpr;have hn13:∀d∈vp,d.size=13:=rp.sz;obtain ⟨bq,cur,hb,hks,_⟩:=h.elAt (n:=13) 0 rfl hn13 wp1 (by decide);refine ⟨_,hb,by omega,by omega,?_⟩;simp only [N6];have fin:∀{F':PH} {g':Gr} {vs:List Γ},g'.conds=g.conds->g'.fam=g.fam->g'.toks=g.toks->g'.nons=g.nons->g'.lvs=g.lvs->g'.fils=g.fils->Sz g'->cR G3 g'.prods vs->St G3 F' [own s2 55 13 (cat vs),pt b8 (.cells (g'.arr c m t s s2 l f) 37)]->gC true b8 (RT6 F) F':=λ{F' g' vs} e1 e2 e3 e4 e5 e6 hz' hv h=>by obtain ⟨G4,l4,hd,h⟩:=h.pinO;have l34:=aa l13 l4;have hs4:=hs.le l4;exact ud l34 (hT.le l34) ⟨c,m,t,s,s2,l,f,rfl,by rw [e1];exact hs4.c,by rw [e2];exact hs4.n,by rw [e3];exact hs4.t,by rw [e4];exact hs4.s,⟨vs,hv.le l4,hd⟩,by rw [e5];exact hs4.l,by rw [e6];exact hs4.f⟩ hz' h
 have one:∀{F':PH} {off:Nat} {u:Value} {p':Pr},off<13->(∀w,Mem.rep G3 pr w->Mem.rep G3 p' (w.setIfInBounds off u))->Sz {g with prods:=g.prods.set k p'}->St G3 F' [own s2 55 13 (cat vp),pt b8 (.cells (g.arr c m t s s2 l f) 37)]->
   sto F' (Addr.add (Addr.add (Addr.mk bq 0 none) (k*13)) off) u λF2=>gC true b8 (RT6 F) F2:=λ{F' off u p'} ho hm hz' h=>by
  refine h.elA hb (n:=13) 0 rfl hn13 wp1 (by decide) ho λF9 h=> ?_;exact fin (g':={g with prods:=g.prods.set k p'}) rfl rfl rfl rfl rfl rfl hz' (rp.set (hm _ ⟨rr,r2,r3,rfl,rr1,rr2,rr3⟩)) h
 have szp:∀p',Sz {g with prods:=g.prods.set k p'}:=λp'=>⟨hz.c,hz.t,hz.l,hz.f⟩;refine ⟨λh0=> ?_,λh0=>⟨λh1=> ?_,λh1=>⟨λh2=> ?_,λh2=>⟨λh3=> ?_,λh3=>⟨λh4=> ?_,λh4=>⟨λh5=> ?_,λh5=>⟨λh6=> ?_,λh6=>⟨λh7=> ?_,λh7=>absurd (by omega) h7⟩⟩⟩⟩⟩⟩⟩⟩
 ·refine h.set1 (w':=Gr.arr {g with start:=n} c m t s s2 l f) (by show 6<9;decide) rfl λF9 h=> ?_;exact fin (g':={g with start:=n}) rfl rfl rfl rfl rfl rfl ⟨hz.c,hz.t,hz.l,hz.f⟩ rp h
 ·exact one (off:=1) (u:=vi n) (p':={pr with left:=n}) (by decide) (λw ⟨a1,a2,a3,e,b1,b2,b3⟩=>⟨a1,a2,a3,by rw [e];rfl,b1,b2,b3⟩) (szp _) h
 ·have:=one (off:=0) (u:=.string ⟨#[]⟩) (p':={pr with name:=⟨#[]⟩}) (by decide) (λw ⟨a1,a2,a3,e,b1,b2,b3⟩=>⟨a1,a2,a3,by rw [e];rfl,b1,b2,b3⟩) (szp _) h;rwa [aC,aC,Sr,<- aC] at this
 ·exact one (off:=6) (u:=vi n) (p':={pr with rank:=n}) (by decide) (λw ⟨a1,a2,a3,e,b1,b2,b3⟩=>⟨a1,a2,a3,by rw [e];rfl,b1,b2,b3⟩) (szp _) h
 ·refine h.run (P:=λr G'=>∃u,r=.agg u/\DV G' u (dia (leaf false))) ((cz false).mono λ_ _ ⟨w,h1,h2,h3⟩=>⟨⟨w,h1,h2⟩,h3⟩) λ_ G4 F9 hr l4 h=> ?_;obtain ⟨u,rfl,hu⟩:=hr;obtain ⟨mm,rfl,hmm⟩:=hu.out;refine ⟨_,rfl,?_⟩;refine h.putR1 (o:=1) (w':=Gr.arr {g with fam:=dia (leaf false)} c mm t s s2 l f) rfl (by simp [ak,Sl.v]) (by show 1+2<=9;decide) rfl λF10 h=> ?_;obtain ⟨G5,l5,hd,h⟩:=h.pinO;have l45:=aa l4 l5;have hs5:=hs.le l45;have l35:=aa l13 l45;exact ud l35 (hT.le l35) (g':={g with fam:=dia (leaf false)}) ⟨c,mm,t,s,s2,l,f,rfl,hs5.c,hmm.le l5,hs5.t,hs5.s,⟨vp,rp.le l45,hd⟩,hs5.l,hs5.f⟩ ⟨hz.c,hz.t,hz.l,hz.f⟩ h
 ·refine h.new λb69 F9 h=> ?_;have hrow:F9.row (Addr.add (Addr.mk bq 0 none) (k*13)) (pr.arr rr r2 r3):=by refine (bW.rd (h.ownAt (i:=1) rfl).1).row hb _ _ ?_;exact wpd.symm
  refine ⟨rr,dQ hrow (i:=2) rfl,?_⟩;have h:=h.imp (A':=own (Sl.mk (some (Addr.mk b69 0 none)) 0 0) 63 2 []) 0 rfl λH _ hH=>ee hH;obtain ⟨vr,rr4,rr5⟩:=id rr1;have err:=rr1.len (by decide);have hr5:=(mg.prods pr (QZ hpr)).rl;refine St.app0 TS h (rr5.le h.le) rr4.st (by show 0+rr.len<=_;omega) λs3 F10 h hl3=>⟨rfl,?_⟩;rw [Rj] at h;have e3:s3.len<=100:=by rw [hl3];show 0+rr.len<=_;omega
  refine h.push0 TS (c:= #[.bool false,vi n]) rfl (by simp [ak]) (by omega) λs4 G4 F11 l4 h hl4=> ?_;obtain ⟨G5,l5,hd5,h⟩:=h.pinO;have l45:=aa l4 l5;have hr6:RL G5 s4 (pr.right++[⟨false,n⟩]):=⟨vr++[#[.bool false,vi n]],(rr4.le l45).append (.cons rfl .nil),by rw [bR,cg];exact hd5⟩;refine h.elA hb (n:=13) 0 rfl hn13 wp1 (by decide) (by decide) λF12 h=> ?_;have hn13':∀d∈vp.set k ((pr.arr rr r2 r3).setIfInBounds 2 (Sl.v s4)),d.size=13:=λd hd=>by
   rcases List.mem_or_eq_of_mem_set hd with hd|rfl
   ·exact hn13 d hd
   ·rfl
  have hkv:k<vp.length:=(N5.1 wp1).1;refine h.elA hb (n:=13) 0 rfl hn13' (List.getElem?_set_self hkv) (by decide) (by decide) λF13 h=> ?_;obtain ⟨G6,l6,hd6,h⟩:=h.pinO;rw [List.set_set] at hd6;have l36:=aa l45 l6;have hs6:=hs.le l36;have l06:=aa l13 l36;have hrep:Mem.rep G6 ({pr with right:=pr.right++[⟨false,n⟩],brk:=false}:Pr) (((pr.arr rr r2 r3).setIfInBounds 2 (Sl.v s4)).setIfInBounds 5 (.bool false)):=⟨s4,r2,r3,rfl,hr6.le l6,rr2.le l36,rr3.le l36⟩;exact ud l06 (hT.le l06) (g':={g with prods:=g.prods.set k {pr with right:=pr.right++[⟨false,n⟩],brk:=false}}) ⟨c,m,t,s,s2,l,f,rfl,hs6.c,hs6.n,hs6.t,hs6.s,⟨_,(rp.le l36).set hrep,hd6⟩,hs6.l,hs6.f⟩ (szp _) h
 ·have:=one (off:=4) (u:=vi n) (p':={pr with cond:=(pr.cond.1,n)}) (by decide) (λw ⟨a1,a2,a3,e,b1,b2,b3⟩=>⟨a1,a2,a3,by rw [e];rfl,b1,b2,b3⟩) (szp _) h;simp only [aC] at this ⊢;exact this
 ·refine h.new λb93 F9 h=> ?_;have h:=h.imp (A':=own (Sl.mk (some (Addr.mk b93 0 none)) 0 0) 69 4 []) 0 rfl λH _ hH=>ee hH;refine ⟨l,h.ld2 rfl,?_⟩;obtain ⟨vl,rl,dl⟩:=id hs.l;have el:=hs.l.len (by decide);have bl:=bd.l;refine St.app0 TL h (dl.le h.le) rl.st (by show 0+l.len<=_;omega) λs3 F10 h hl3=> ?_;rw [Rj] at h;have e3:s3.len<=100:=by rw [hl3];show 0+l.len<=_;omega
  refine h.newG λb98 G4 F11 l4 q98 _ h=> ?_;refine h.run (eN _) λ_ G5 F12 hr l5 h=> ?_;obtain ⟨u,rfl,hu⟩:=hr;obtain ⟨mm,rfl,hmm⟩:=hu.out;refine ⟨_,rfl,rfl,rfl,?_⟩;refine h.push0 TL (c:= #[Sl.v (Sl.mk (some (Addr.mk b98 0 none)) 1 1),vi 0,mm.v,vi aK.2]) rfl (by simp [ak,Sl.v]) (by omega) λs4 G6 F13 l6 h hl4=> ?_;refine h.set2 (w':=Gr.arr {g with lvs:=g.lvs++[⟨[n],0,aK⟩]} c m t s s2 s4 f) (by show 7<9;decide) rfl λF14 h=> ?_;obtain ⟨G7,l7,hd7,h⟩:=h.pinO;obtain ⟨G8,l8,hd8,h⟩:=h.pinO;have l48:=aa l5 (aa l6 (aa l7 l8));have l38:=aa l4 l48;have hs8:=hs.le l38;have l08:=aa l13 l38;have hint:RL G8 (Sl.mk (some (Addr.mk b98 0 none)) 1 1) [n]:=RL.ints.2 (RdS.new (l48 _ _ q98) rfl rfl (QW _));have hlv:RL G8 s4 (g.lvs++[⟨[n],0,aK⟩]):=⟨vl++[#[Sl.v (Sl.mk (some (Addr.mk b98 0 none)) 1 1),vi 0,mm.v,vi aK.2]],(rl.le l38).append (.cons ⟨_,mm,rfl,hint,hmm.le (aa l6 (aa l7 l8))⟩ .nil),by rw [bR,cg];exact hd7.le l8⟩;refine ud l08 (hT.le l08) (g':={g with lvs:=g.lvs++[⟨[n],0,aK⟩]}) ⟨c,m,t,s,s2,s4,f,rfl,hs8.c,hs8.n,hs8.t,hs8.s,⟨vp,rp.le l38,hd8⟩,hlv,hs8.f⟩ ⟨hz.c,hz.t,λy hy=> ?_,hz.f⟩ h;rcases QX.1 hy with hy|hy
  ·exact hz.l y hy
  ·rw [QV.1 hy];show 1<=1000000000;decide
end
end Go.Proofs.YtcemhghkipgdiaaGreatDoor
