/-
  Made grammars with further productions: they are valid; which productions a made grammar has.
-/
import Derived.Test.YtcemhghkipgdiaaGreatDoorCd
import Derived.Test.YtcemhghkipgdiaaGreatDoorAz
import Derived.Test.YtcemhghkipgdiaaGreatDoorGkoineref05
import Derived.Test.YtcemhghkipgdiaaGreatDoorQm
import Derived.Test.YtcemhghkipgdiaaGreatDoorEd
import Derived.Test.YtcemhghkipgdiaaGreatDoorPhm
import Derived.Test.YtcemhghkipgdiaaGreatDoorQr
import Derived.Test.YtcemhghkipgdiaaGreatDoorIo
import Derived.Test.YtcemhghkipgdiaaGreatDoorAb
import Derived.Test.YtcemhghkipgdiaaGreatDoorGbits
import Derived.Test.YtcemhghkipgdiaaGreatDoorEr
import Derived.Test.YtcemhghkipgdiaaGreatDoorEx
import Derived.Test.YtcemhghkipgdiaaGreatDoorHr
import Derived.Test.YtcemhghkipgdiaaGreatDoorAt
import Derived.Test.YtcemhghkipgdiaaGreatDoorAm
namespace Go.Proofs.YtcemhghkipgdiaaGreatDoor
open Go Go.Proofs.Tryz Tr
set_option maxRecDepth 10000
abbrev RT6 (F:PH):VR:=λr F'=>r=.bool true/\F.le F'
structure SnK (F G:PH) (b1 b2 b5:Nat) (c n t s:Sl):Prop where
 lF:F.le G
 hT:Tab G
 q1:∃w,G b1=some (.cells w 31)/\DV G w aK
 q2:∃w,G b2=some (.cells w 31)/\DV G w (dia (tv 0))
 q5:∃w,G b5=some (.cells w 31)/\DV G w (dia (leaf false))
 c:RL G c (cz nST).conds
 n:RL G n aK.1
 t:RL G t dS
 s:RL G s nST
section
variable {F G G' F1:PH} {b1 b2 b5 b6:Nat} {c n t s p:Sl}
theorem SnK.le (K:SnK F G b1 b2 b5 c n t s) (l:G.le G'):SnK F G' b1 b2 b5 c n t s:=
 ⟨aa K.lF l,K.hT.le l,by obtain ⟨w,a,b⟩:=K.q1;exact ⟨w,l _ _ a,b.le l⟩,by obtain ⟨w,a,b⟩:=K.q2;exact ⟨w,l _ _ a,b.le l⟩,by obtain ⟨w,a,b⟩:=K.q5;exact ⟨w,l _ _ a,b.le l⟩,K.c.le l,K.n.le l,K.t.le l,K.s.le l⟩
theorem SnK.gv (K:SnK F G b1 b2 b5 c n t s) {l:List Pr} (hp:RL G p l):GV G ((cz nST).arr c n t s p Sl.nil Sl.nil) (sgG l):=
 ⟨c,n,t,s,p,Sl.nil,Sl.nil,rfl,K.c,K.n,K.t,K.s,hp,RL.nil G,RL.nil G⟩
theorem AO {S:Int->Tr} {t u:Tr} (h0:S 0=t) (h1:S 1=u):eN S 2=[dia t,dia u]:=by subst h0 h1;rfl
theorem eK:Sx 2 (tv 0):=Sx.tv (by decide) (by decide)
theorem EC {l:List Pr} (h:MG (sgG l)) (h0:l.length≠0) (h1:l.length<=3):Sz (sgG l):=h.sz (JN h0 h1)
theorem Ry (C:Int->Tr) (h:lP 2 2 sp2 (aF (sgG sp2)) C):eN C 2=[dia (tv 0),dia (tv 0)]:=by
 refine AO (hY (h.sx 0) eK.1 λc=> ?_) (hY (h.sx 1) eK.1 λc=> ?_)
 ·rw [io,<- yL (n:=0) (.inl rfl)];exact h.iff 0 c (by decide)
 ·rw [io,<- yL (n:=1) (.inr rfl)];exact h.iff 1 c (by decide)
theorem Rz (C:Int->Tr) (h:lP 2 2 sp3 (aF (sgG sp3)) C):eN C 2=[dia (tv 0),dia (leaf false)]:=by refine AO (hY (h.sx 0) eK.1 λc=> ?_) (sX (h.sx 1) λc hc=>Ht ((h.iff 1 c (by decide)).1 hc));rw [io,<- Hr];exact h.iff 0 c (by decide)
theorem Hj {t u:Tr} (ht:Sx 2 t) (hu:Sx 2 u):∀d∈[dia t,dia u],Fit d.1.length:=λd hd=>by
 rcases Sw.1 hd with rfl|hd
 ·exact jv ht (by decide)
 ·rw [SA.1 hd];exact jv hu (by decide)
theorem Pm (K:SnK F G b1 b2 b5 c n t s) (h:St G F1 [pt b6 (.cells ((cz nST).arr c n t s p Sl.nil Sl.nil) 37)]):qW b1 b2 b5 b6 true true (RT6 F) F1:=by unfold qW;obtain ⟨w1,q1,d1⟩:=K.q1;obtain ⟨w2,q2,d2⟩:=K.q2;obtain ⟨w5,q5,d5⟩:=K.q5;have r1:∀{G' F':PH} {As:List (Ψ)},G.le G'->St G' F' As->F'.row (Addr.mk b1 0 none) w1:=λl h=>ac (h.le _ _ (l _ _ q1));have r2:∀{G' F':PH} {As:List (Ψ)},G.le G'->St G' F' As->F'.row (Addr.mk b2 0 none) w2:=λl h=>ac (h.le _ _ (l _ _ q2));have e:=aq G;refine ⟨w2,d2.size,r2 e h,w1,d1.size,r1 e h,w1,d1.size,r1 e h,?_⟩;refine h.runv (gO 1 _) λG2 F2 l2 h=>⟨_,rfl,r1 l2 h,r1 l2 h,r2 l2 h,?_⟩;refine h.runv (gO 0 _) λG3 F3 l3 h=> ?_;replace l3:=aa l2 l3;refine ⟨_,rfl,r1 l3 h,r1 l3 h,r2 l3 h,?_⟩;refine h.runv (gO 1 _) λG4 F4 l4 h=> ?_;replace l4:=aa l3 l4;refine ⟨_,rfl,r1 l4 h,r1 l4 h,r2 l4 h,rfl,rfl,rfl,?_⟩;refine h.newG λb166 G5 F5 l5 q166 _ h=> ?_;replace l5:=aa l4 l5;have hr1:RL G5 (Sl.mk (some (Addr.mk b166 0 none)) 3 3) ([⟨false,1⟩,⟨false,0⟩,⟨false,1⟩]:List Sy):=AT (n:=2) q166 rfl rfl rfl rfl rfl;refine h.run (cR ⟨#[115]⟩ 0 hr1 (d2.le l5)) λ_ G6 F6 hv6 l6 h=> ?_;obtain ⟨v6,rfl,hv6⟩:=hv6;replace l6:=aa l5 l6;refine ⟨v6,rfl,r1 l6 h,r1 l6 h,?_⟩;refine h.runv (jP 0 _) λG7 F7 l7 h=> ?_;have l67:=l7;replace l7:=aa l6 l7;refine ⟨_,rfl,r1 l7 h,r1 l7 h,rfl,?_⟩;refine h.newG λb170 G8 F8 l8 q170 _ h=> ?_;have l68:=aa l67 l8;replace l8:=aa l7 l8;have hr2:RL G8 (Sl.mk (some (Addr.mk b170 0 none)) 1 1) ([⟨true,0⟩]:List Sy):=AR q170 rfl;refine h.run (cR ⟨#[116]⟩ 0 hr2 (d1.le l8)) λ_ G9 F9 hv9 l9 h=> ?_;obtain ⟨v9,rfl,hv9⟩:=hv9;have l69:=aa l68 l9;replace l9:=aa l8 l9;refine ⟨v9,rfl,r1 l9 h,?_⟩;refine h.run (cR ⟨#[117]⟩ 1 (RL.nil G9) (d1.le l9)) λ_ G10 F10 hv10 l10 h=> ?_;obtain ⟨v10,rfl,hv10⟩:=hv10;refine ⟨v10,rfl,Mem.len hv6,Mem.len hv9,Mem.len hv10,?_⟩;refine h.newG λb174 G11 F11 l11 q174 _ h=> ?_;have l1011:=aa l10 l11;have hps:RL G11 (Sl.mk (some (Addr.mk b174 0 none)) 3 3) sp3:=AT (n:=13) q174 rfl rfl (Mem.le (aa l69 l1011) hv6) (Mem.le l1011 hv9) (Mem.le l11 hv10);replace l11:=aa l9 l1011;refine h.set0 (w':=(cz nST).arr c n t s (Sl.mk (some (Addr.mk b174 0 none)) 3 3) Sl.nil Sl.nil) (by show 5<9;decide) rfl λF12 h=> ?_;have K11:=K.le l11;refine ⟨_,rfl,ac (h.ptAt (i:=0) rfl),?_⟩;refine h.run (qY K11.hT (K11.gv hps) (EC yJ (by decide) (by decide)) sg3.ok) λ_ G13 F13 hr l13 h=> ?_;obtain ⟨sl,ds,rfl,⟨C,hC,rfl⟩,hds⟩:=hr;rw [show eN C (sgG sp3).nons.length=[dia (tv 0),dia (leaf false)] from Rz C hC] at hds;replace l13:=aa l11 l13;refine ⟨sl,_,rfl,λ_=>⟨λ_=>⟨λ_=> ?_,λhn=>absurd rfl hn⟩,λhn=>(by cases hn)⟩,λhn=>(by cases hn)⟩;refine ⟨w2,d2.size,r2 l13 h,w5,d5.size,ac (h.le _ _ (l13 _ _ q5)),d2.size,d5.size,?_⟩;refine h.newG λb193 G14 F14 l14 q193 _ h=> ?_;have hl2:RL G14 (Sl.mk (some (Addr.mk b193 0 none)) 2 2) [dia (tv 0),dia (leaf false)]:=sV (n:=2) q193 rfl rfl (show DV G14 w2 _ from d2.le (aa l13 l14)) (show DV G14 w5 _ from d5.le (aa l13 l14));refine h.run (eS (hds.le l14) hl2 (Hj eK (Sx.leaf 2 false)) (by decide)) λr G15 F15 hr l15 h=> ?_;subst hr;exact ⟨_,rfl,by rw [decide_eq_true rfl],aa K.lF (aa l13 (aa l14 (aa l15 h.le)))⟩
theorem Po (K:SnK F G b1 b2 b5 c n t s) (h:St G F1 [pt b6 (.cells ((cz nST).arr c n t s p Sl.nil Sl.nil) 37)]):j9 b1 b2 b5 b6 true (RT6 F) F1:=by
 unfold j9;obtain ⟨w1,q1,d1⟩:=K.q1;obtain ⟨w2,q2,d2⟩:=K.q2;have r1:∀{G' F':PH} {As:List (Ψ)},G.le G'->St G' F' As->F'.row (Addr.mk b1 0 none) w1:=λl h=>ac (h.le _ _ (l _ _ q1));have r2:∀{G' F':PH} {As:List (Ψ)},G.le G'->St G' F' As->F'.row (Addr.mk b2 0 none) w2:=λl h=>ac (h.le _ _ (l _ _ q2));have e:=aq G;refine ⟨w1,d1.size,r1 e h,w2,d2.size,r2 e h,w1,d1.size,r1 e h,?_⟩;refine h.runv (gO 1 _) λG2 F2 l2 h=>⟨_,rfl,r1 l2 h,r2 l2 h,r1 l2 h,rfl,?_⟩;refine h.newG λb131 G3 F3 l3 q131 _ h=> ?_;replace l3:=aa l2 l3;have hr1:RL G3 (Sl.mk (some (Addr.mk b131 0 none)) 1 1) ([⟨false,1⟩]:List Sy):=AR q131 rfl;refine h.run (cR ⟨#[115]⟩ 0 hr1 (d1.le l3)) λ_ G6 F6 hv6 l6 h=> ?_;obtain ⟨v6,rfl,hv6⟩:=hv6;replace l6:=aa l3 l6;refine ⟨v6,rfl,r1 l6 h,r2 l6 h,?_⟩;refine h.runv (gO 0 _) λG7 F7 l7 h=> ?_;have l67:=l7;replace l7:=aa l6 l7;refine ⟨_,rfl,r1 l7 h,r2 l7 h,rfl,?_⟩;refine h.newG λb135 G8 F8 l8 q135 _ h=> ?_;have l68:=aa l67 l8;replace l8:=aa l7 l8;have hr2:RL G8 (Sl.mk (some (Addr.mk b135 0 none)) 1 1) ([⟨false,0⟩]:List Sy):=AR q135 rfl;refine h.run (cR ⟨#[116]⟩ 1 hr2 (d2.le l8)) λ_ G9 F9 hv9 l9 h=> ?_;obtain ⟨v9,rfl,hv9⟩:=hv9;have l69:=aa l68 l9;replace l9:=aa l8 l9;refine ⟨v9,rfl,r1 l9 h,?_⟩;refine h.runv (jP 0 _) λG10 F10 l10 h=> ?_;have l910:=l10;replace l10:=aa l9 l10;refine ⟨_,rfl,r1 l10 h,rfl,?_⟩;refine h.newG λb139 G11 F11 l11 q139 _ h=> ?_;have l911:=aa l910 l11;replace l11:=aa l10 l11;have hr3:RL G11 (Sl.mk (some (Addr.mk b139 0 none)) 1 1) ([⟨true,0⟩]:List Sy):=AR q139 rfl;refine h.run (cR ⟨#[117]⟩ 1 hr3 (d1.le l11)) λ_ G12 F12 hv12 l12 h=> ?_;obtain ⟨v12,rfl,hv12⟩:=hv12;have l912:=aa l911 l12;replace l12:=aa l11 l12;refine ⟨v12,rfl,Mem.len hv6,Mem.len hv9,Mem.len hv12,?_⟩;refine h.newG λb141 G13 F13 l13 q141 _ h=> ?_;have hps:RL G13 (Sl.mk (some (Addr.mk b141 0 none)) 3 3) sp2:=AT (n:=13) q141 rfl rfl (Mem.le (aa l69 (aa l912 l13)) hv6) (Mem.le (aa l912 l13) hv9) (Mem.le l13 hv12);replace l13:=aa l12 l13;refine h.set0 (w':=(cz nST).arr c n t s (Sl.mk (some (Addr.mk b141 0 none)) 3 3) Sl.nil Sl.nil) (by show 5<9;decide) rfl λF14 h=> ?_;have K13:=K.le l13;have sz:=EC yI (by decide) (by decide);refine ⟨_,rfl,ac (h.ptAt (i:=0) rfl),?_⟩;refine h.run (qY K13.hT (K13.gv hps) sz sg2.ok) λ_ G15 F15 hr l15 h=> ?_;obtain ⟨sl,ds,rfl,⟨C,hC,rfl⟩,hds⟩:=hr;rw [show eN C (sgG sp2).nons.length=[dia (tv 0),dia (tv 0)] from Ry C hC] at hds;have l1315:=l15;replace l15:=aa l13 l15;refine ⟨sl,_,rfl,λ_=> ?_,λhn=>absurd rfl hn⟩;refine ⟨w2,d2.size,r2 l15 h,w2,d2.size,r2 l15 h,d2.size,d2.size,?_⟩;refine h.newG λb154 G16 F16 l16 q154 _ h=> ?_;have hl2:RL G16 (Sl.mk (some (Addr.mk b154 0 none)) 2 2) [dia (tv 0),dia (tv 0)]:=sV (n:=2) q154 rfl rfl (show DV G16 w2 _ from d2.le (aa l15 l16)) (show DV G16 w2 _ from d2.le (aa l15 l16));refine h.run (eS (hds.le l16) hl2 (Hj eK eK) (by decide)) λr G17 F17 hr l17 h=> ?_;subst hr;have l1317:=aa l1315 (aa l16 l17);refine ⟨_,rfl,λ_=> ?_,λhn=>(by rw [decide_eq_true rfl] at hn;cases hn)⟩;refine ⟨_,rfl,ac (h.ptAt (i:=0) rfl),?_⟩;have K17:=K13.le l1317;refine h.run (qZ K17.hT (K17.gv (hps.le l1317)) sz sg2.ok) λ_ G18 F18 hr l18 h=> ?_;have hcy:kg (sgG sp2):=⟨0,λ_=>true,by decide,(yL (c:=λ_=>true) (n:=0) (.inl rfl)).2 rfl⟩;rcases hr with ⟨_,rfl⟩|⟨hn,_⟩
 ·exact ⟨_,rfl,Pm (K17.le l18) h⟩
 ·exact absurd hcy hn
theorem Hk {F:PH} (hT:Tab F):aj prog 12 #[] F (RT6 F):=by
 refine RI ?_;unfold Pv;refine (St.start F).run (fG F) λr G1 F1 hr l1 h=> ?_;obtain ⟨w1,rfl,d1⟩:=hr;refine ⟨w1,rfl,?_⟩;refine h.var d1.st (λb1 G2 F2 l2 q1 h=> ?_) rfl d1.size;replace d1:=d1.le l2;replace l2:=aa l1 l2;refine h.run (iZ 0 (by decide) _) λr G3 F3 hr l3 h=> ?_;obtain ⟨w2,rfl,d2⟩:=hr;refine ⟨w2,rfl,?_⟩;refine h.var d2.st (λb2 G4 F4 l4 q2 h=> ?_) rfl d2.size;replace d2:=d2.le l4;have l24:=aa l3 l4;refine h.run (iZ 1 (by decide) _) λr G5 F5 hr l5 h=> ?_;obtain ⟨w3,rfl,d3⟩:=hr;refine ⟨w3,rfl,?_⟩;refine h.var d3.st (λb3 G6 F6 l6 q3 h=> ?_) rfl d3.size;replace d3:=d3.le l6;have l46:=aa l5 l6;refine ⟨w2,d2.size,ac (h.le _ _ (l46 _ _ q2)),w3,d3.size,ac (h.le _ _ q3),?_⟩;have tv1_ok:Sx 2 (tv 1):=Sx.tv (by decide) (by decide);refine h.run (P:=λr G'=>∃u,r=.agg u/\DV G' u (dia ra)) ((gQ (d2.le l46) d3 (eK.f2 tv1_ok (by decide))).mono λ_ _ ⟨w,h1,h2,h3⟩=>⟨⟨w,h1,h2⟩,h3⟩) λ_ G7 F7 hr l7 h=> ?_;obtain ⟨w4,rfl,d4⟩:=hr;refine ⟨w4,rfl,?_⟩;refine h.var d4.st (λb4 G8 F8 l8 q4 h=> ?_) rfl d4.size;replace d4:=d4.le l8;have l68:=aa l7 l8;refine h.run (P:=λr G'=>∃u,r=.agg u/\DV G' u (dia (leaf false))) ((df false).mono λ_ _ ⟨w,h1,h2,h3⟩=>⟨⟨w,h1,h2⟩,h3⟩) λ_ G9 F9 hr l9 h=> ?_;obtain ⟨w5,rfl,d5⟩:=hr;refine ⟨w5,rfl,?_⟩;refine h.var d5.st (λb5 G10 F10 l10 q5 h=> ?_) rfl d5.size;replace d5:=d5.le l10;have l810:=aa l9 l10;refine h.newG λb26 G11 F11 l11 q26 _ h=> ?_;have hns:RL G11 (Sl.mk (some (Addr.mk b26 0 none)) 2 2) nST:=RL.strs.2 (RdS.new q26 rfl rfl (SC _));refine h.run (lU hns) λ_ G12 F12 hr l12 h=> ?_;obtain ⟨c,n,t,rfl,hc,hn,ht,hs⟩:=hr;refine ⟨_,rfl,?_⟩;refine h.new λb6 F13 h=> ?_;refine h.put0 (w':=(cz nST).arr c n t (Sl.mk (some (Addr.mk b26 0 none)) 2 2) Sl.nil Sl.nil Sl.nil) rfl rfl (by simp [ak,Sl.v]) λF14 h=> ?_;have l1012:=aa l11 l12;have l812:=aa l810 l1012;have l612:=aa l68 l812;have l412:=aa l46 l612;have l212:=aa l24 l412;have l012:=aa l2 l212;have K:SnK F G12 b1 b2 b5 c n t (Sl.mk (some (Addr.mk b26 0 none)) 2 2):=⟨l012,hT.le l012,⟨w1,l212 _ _ q1,d1.le l212⟩,⟨w2,l412 _ _ q2,d2.le l412⟩,⟨w5,l1012 _ _ q5,d5.le l1012⟩,hc,hn,ht,hs⟩;generalize Sl.mk (some (Addr.mk b26 0 none)) 2 2=s at*;replace q1:=l212 _ _ q1;replace d1:=d1.le l212;replace q2:=l412 _ _ q2;replace d2:=d2.le l412;replace q3:=l612 _ _ q3;replace d3:=d3.le l612;replace q4:=l812 _ _ q4;replace d4:=d4.le l812;have r1:∀{G' F':PH} {As:List (Ψ)},G12.le G'->St G' F' As->F'.row (Addr.mk b1 0 none) w1:=λl h=>ac (h.le _ _ (l _ _ q1));have r2:∀{G' F':PH} {As:List (Ψ)},G12.le G'->St G' F' As->F'.row (Addr.mk b2 0 none) w2:=λl h=>ac (h.le _ _ (l _ _ q2));have r3:∀{G' F':PH} {As:List (Ψ)},G12.le G'->St G' F' As->F'.row (Addr.mk b3 0 none) w3:=λl h=>ac (h.le _ _ (l _ _ q3));have e:=aq G12;refine ⟨w1,d1.size,r1 e h,w2,d2.size,r2 e h,w3,d3.size,r3 e h,?_⟩;refine h.runv (jP 0 _) λG13 F15 l13 h=>⟨_,rfl,r3 l13 h,r2 l13 h,r1 l13 h,?_⟩;refine h.runv (gO 1 _) λG14 F16 l14 h=> ?_;replace l14:=aa l13 l14;refine ⟨_,rfl,r3 l14 h,r2 l14 h,r1 l14 h,rfl,rfl,?_⟩;refine h.newG λb31 G15 F17 l15 q31 _ h=> ?_;replace l15:=aa l14 l15;have hr1:RL G15 (Sl.mk (some (Addr.mk b31 0 none)) 2 2) ([⟨true,0⟩,⟨false,1⟩]:List Sy):=sV (n:=2) q31 rfl rfl rfl rfl;refine h.run (cR ⟨#[115]⟩ 0 hr1 (d1.le l15)) λ_ G16 F18 hv1 l16 h=> ?_;obtain ⟨v1,rfl,hv1⟩:=hv1;replace l16:=aa l15 l16;refine ⟨v1,rfl,r3 l16 h,r2 l16 h,?_⟩;refine h.run (cR ⟨#[116]⟩ 1 (RL.nil G16) (d2.le l16)) λ_ G17 F19 hv2 l17 h=> ?_;obtain ⟨v2,rfl,hv2⟩:=hv2;have m17:=l17;replace l17:=aa l16 l17;refine ⟨v2,rfl,r3 l17 h,?_⟩;refine h.runv (jP 1 _) λG18 F20 l18 h=> ?_;have m18:=l18;replace l18:=aa l17 l18;refine ⟨_,rfl,r3 l18 h,?_⟩;refine h.runv (gO 1 _) λG19 F21 l19 h=> ?_;have m19:=aa m18 l19;replace l19:=aa l18 l19;refine ⟨_,rfl,r3 l19 h,rfl,rfl,?_⟩;refine h.newG λb38 G20 F22 l20 q38 _ h=> ?_;have m20:=aa m19 l20;replace l20:=aa l19 l20;have hr3:RL G20 (Sl.mk (some (Addr.mk b38 0 none)) 2 2) ([⟨true,1⟩,⟨false,1⟩]:List Sy):=sV (n:=2) q38 rfl rfl rfl rfl;refine h.run (cR ⟨#[117]⟩ 1 hr3 (d3.le l20)) λ_ G21 F23 hv3 l21 h=> ?_;obtain ⟨v3,rfl,hv3⟩:=hv3;have m21:=aa m20 l21;replace l21:=aa l20 l21;refine ⟨v3,rfl,Mem.len hv1,Mem.len hv2,Mem.len hv3,?_⟩;refine h.newG λb40 G22 F24 l22 q40 _ h=> ?_;have m22:=aa m21 l22;have hps:RL G22 (Sl.mk (some (Addr.mk b40 0 none)) 3 3) sp1:=AT (n:=13) q40 rfl rfl (Mem.le (aa m17 m22) hv1) (Mem.le m22 hv2) (Mem.le l22 hv3);replace l22:=aa l21 l22;refine h.set0 (w':=(cz nST).arr c n t s (Sl.mk (some (Addr.mk b40 0 none)) 3 3) Sl.nil Sl.nil) (by show 5<9;decide) rfl λF25 h=> ?_;have K22:=K.le l22;have gv22:=K22.gv hps;have sz:=EC yH (by decide) (by decide);have hk:=sg1.ok;have hl:∀x∈(sgG sp1).prods,x.right.length<=1000000:=by decide
 have hp:(sgG sp1).prods.length<=1000000:=by decide
 have hns2:(sgG sp1).nons.length<=1000000:=by decide
 have hts2:(sgG sp1).toks.length<=1000000:=by decide
 refine ⟨_,rfl,ac (h.ptAt (i:=0) rfl),?_⟩;refine h.run (lO K22.hT gv22 sz hk hl hp hns2) λ_ G23 F26 hr l23 h=> ?_;obtain ⟨sl1,S1,rfl,i1,h1⟩:=hr;refine ⟨sl1,_,rfl,_,rfl,ac (h.ptAt (i:=0) rfl),?_⟩;refine h.run (ja (K22.le l23).hT (gv22.le l23) sz hk hl hp hns2) λ_ G24 F27 hr l24 h=> ?_;obtain ⟨sl2,S2,rfl,i2,h2⟩:=hr;have n24:=aa l23 l24;refine ⟨sl2,_,rfl,_,rfl,ac (h.ptAt (i:=0) rfl),?_⟩;refine h.run (tc (K22.le n24).hT (gv22.le n24) sz hk hl hp hts2 hns2) λ_ G25 F28 hr l25 h=> ?_;obtain ⟨sl3,rows,rfl,⟨S3,i3,rfl⟩,h3⟩:=hr;have n25:=aa n24 l25;refine ⟨sl3,_,rfl,_,rfl,ac (h.ptAt (i:=0) rfl),?_⟩;refine h.run (y7 (K22.le n25).hT (gv22.le n25) sz hk hl hp) λ_ G26 F29 hr l26 h=> ?_;obtain ⟨sl4,us,rfl,⟨U,i4,rfl⟩,h4⟩:=hr;have n26:=aa n25 l26;have o26:=aa l22 n26;refine ⟨sl4,_,rfl,λhn=>absurd rfl hn,λ_=>⟨λhn=>absurd rfl hn,λ_=>⟨λhn=>absurd rfl hn,λ_=>⟨λhn=>absurd rfl hn,λ_=> ?_⟩⟩⟩⟩;have el3:sl3.len=2:=h3.len (by decide);have el4:sl4.len=3:=h4.len (by decide);have et:t.len=11:=K.t.len (by decide);refine ⟨λhn=>absurd (by rw [el3];rfl) hn,λ_=> ?_⟩;refine ixc (h3.le l26) (by decide) (by omega) (by rw [el3];decide) λa83 c83 row hrow hrw hc83=> ?_;have hrow':(jL S3 (sgG sp1).toks.length (sgG sp1).nons.length)[1]? =some row:=hrow;obtain rfl:row=nS S3 11 1:=(SY hrow').symm;obtain ⟨sr,rfl,hsr⟩:=hc83;have elr:sr.len=11:=by have:=hsr.len (by decide);rw [this];unfold nS;rw [SM,Th]
 have c84:∀{G' F':PH} {As:List (Ψ)},G26.le G'->St G' F' As->F'.cell (Addr.add a83 (Int.toNat (1:Int)*1))=some (Sl.v sr):=λl h=>aY (aT (aa l h.le) hrw) rfl;have e26:=aq G26;refine ⟨sr,c84 e26 h,t,ld (h.ptAt (i:=0) rfl) rfl,λhn=>absurd (by rw [elr,et]) hn,λ_=>⟨λhn=>absurd (by rw [el4];rfl) hn,λ_=> ?_⟩⟩;refine ⟨w5,d5.size,ac (h.le _ _ (o26 _ _ (l1012 _ _ q5))),w2,d2.size,r2 o26 h,d5.size,d2.size,?_⟩;refine h.newG λb99 G27 F30 l27 q99 _ h=> ?_;have o27:=aa o26 l27;have hl99:RL G27 (Sl.mk (some (Addr.mk b99 0 none)) 2 2) [dia (leaf false),dia (tv 0)]:=sV (n:=2) q99 rfl rfl (show DV G27 w5 _ from d5.le (aa l1012 o27)) (show DV G27 w2 _ from d2.le o27);have z1:eN S1 (sgG sp1).nons.length=[dia (leaf false),dia (tv 0)]:=AO (sX (i1.sx 0) λc hc=>Hq ((i1.iff 0 c).1 hc)) (hY (i1.sx 1) eK.1 λc=>by rw [i1.iff,io];exact ⟨q0,jw⟩);have z2:eN S2 (sgG sp1).nons.length=[dia (tv 0),dia (tv 0)]:=AO (hY (i2.sx 0) eK.1 λc=>by rw [i2.iff,io];exact ⟨q0,Hp⟩) (hY (i2.sx 1) eK.1 λc=>by rw [i2.iff,io];exact ⟨q0,λh=>(jw h).up⟩);rw [z1] at h1;rw [z2] at h2;refine h.run (eS (h1.le (aa l24 (aa l25 (aa l26 l27)))) hl99 (Hj (Sx.leaf 2 false) eK) (by decide)) λr G28 F31 hr l28 h=> ?_;subst hr;have o28:=aa o27 l28;refine ⟨_,rfl,λ_=> ?_,λhn=>(by rw [decide_eq_true rfl] at hn;cases hn)⟩;refine ⟨w2,d2.size,r2 o28 h,w2,d2.size,r2 o28 h,d2.size,d2.size,?_⟩;refine h.newG λb105 G29 F32 l29 q105 _ h=> ?_;have o29:=aa o28 l29;have hl105:RL G29 (Sl.mk (some (Addr.mk b105 0 none)) 2 2) [dia (tv 0),dia (tv 0)]:=sV (n:=2) q105 rfl rfl (show DV G29 w2 _ from d2.le o29) (show DV G29 w2 _ from d2.le o29);refine h.run (eS (h2.le (aa l25 (aa l26 (aa l27 (aa l28 l29))))) hl105 (Hj eK eK) (by decide)) λr G30 F33 hr l30 h=> ?_;subst hr;have o30:=aa o29 l30;have p30:=aa l27 (aa l28 (aa l29 l30));refine ⟨_,rfl,λ_=> ?_,λhn=>(by rw [decide_eq_true rfl] at hn;cases hn)⟩;refine ixc (h3.le (aa l26 p30)) (by decide) (by omega) (by rw [el3];decide) λa110 c110 row2 hrow2 hrw2 hc110=> ?_;have hrow2':(jL S3 (sgG sp1).toks.length (sgG sp1).nons.length)[1]? =some row2:=hrow2;obtain rfl:row2=nS S3 11 1:=(SY hrow2').symm;obtain ⟨sr2,rfl,hsr2⟩:=hc110;have c110:∀{G' F':PH} {As:List (Ψ)},G30.le G'->St G' F' As->F'.cell (Addr.add a110 (Int.toNat (1:Int)*1))=some (Sl.v sr2):=λl h=>aY (aT (aa l h.le) hrw2) rfl;have elr2:sr2.len=11:=by have:=hsr2.len (by decide);rw [this];unfold nS;rw [SM,Th]
 refine ⟨sr2,c110 (aq _) h,?_⟩;refine ixc hsr2 (by decide) (by omega) (by rw [elr2];decide) λa112 c112 dd hdd hrw112 hc112=>⟨c112,Mem.len hc112,aT h.le hrw112,w4,d4.size,ac (h.le _ _ (o30 _ _ q4)),?_⟩;have hdd':(nS S3 11 1)[1]? =some dd:=hdd;have z3:S3 ((1:Int),(1:Int))=ra:=hY (i3.sx _) oW.1 λc=>by rw [i3.iff,AW];exact LJ
 obtain rfl:dd=dia ra:=by rw [<- z3];exact (SY hdd').symm
 refine h.run (gR (show DV G30 c112 _ from hc112) (d4.le o30) (jv oW (by decide))) λr G31 F34 hr l31 h=> ?_;subst hr;have o31:=aa o30 l31;refine ⟨_,rfl,c110 l31 h,λ_=> ?_,λhn=>(by rw [decide_eq_true rfl] at hn;cases hn)⟩;refine ixc (h4.le (aa p30 l31)) (by decide) (by omega) (by rw [el4];decide) λa119 c119 du hdu hrw119 hc119=>⟨c119,Mem.len hc119,aT h.le hrw119,w4,d4.size,ac (h.le _ _ (o31 _ _ q4)),?_⟩;have hdu':(LZ U (sgG sp1).prods.length)[2]? =some du:=hdu;have efam:tre (sgG sp1).fam=leaf true:=gY (t:=leaf true) trivial;have z4:U 2=ra:=hY (i4.sx _) oW.1 λc=>by rw [i4.iff 2 c (by decide),AW,efam];exact LL
 obtain rfl:du=dia ra:=by rw [<- z4];exact (SY hdu').symm
 refine h.run (gR (show DV G31 c119 _ from hc119) (d4.le o31) (jv oW (by decide))) λr G32 F35 hr l32 h=> ?_;subst hr;refine ⟨_,rfl,c110 (aa l31 l32) h,λ_=> ?_,λhn=>(by rw [decide_eq_true rfl] at hn;cases hn)⟩;refine ⟨_,rfl,ac (h.ptAt (i:=0) rfl),?_⟩;have n32:=aa n26 (aa p30 (aa l31 l32));refine h.run (qZ (K22.le n32).hT (gv22.le n32) sz hk) λ_ G33 F36 hr l33 h=> ?_;have hno:¬kg (sgG sp1):=by rintro ⟨m,c,_,tg⟩;obtain ⟨d,hd⟩:=tg.head;exact LM hd
 rcases hr with ⟨hc,_⟩|⟨_,rfl⟩
 ·exact absurd hc hno
 ·exact ⟨_,rfl,c110 (aa l31 (aa l32 l33)) h,Po ((K22.le n32).le l33) h⟩
end
section
end
section
end
section
end
section
end
section
end
abbrev PrQ:=Nat×Nat
section
end
section
end
end Go.Proofs.YtcemhghkipgdiaaGreatDoor
namespace Go.Proofs.YtcemhghkipgdiaaGreatDoor
set_option maxRecDepth 10000
structure Two where
 acc:PrQ->Nat->Prop
 lnk:PrQ->PrQ->Prop
 ini:PrQ->Prop
 fin:PrQ->Prop
namespace Two
end Two
section
end
section
end
end Go.Proofs.YtcemhghkipgdiaaGreatDoor
namespace Go.Proofs.YtcemhghkipgdiaaGreatDoor
open Go Go.Proofs.Tryz
set_option maxRecDepth 10000
section
end
section
end
section
end
section
end
end Go.Proofs.YtcemhghkipgdiaaGreatDoor
namespace Go.Proofs.YtcemhghkipgdiaaGreatDoor
open Go Go.Proofs.Tryz Tr
set_option maxRecDepth 10000
section
end
section
end
section
end
section
end
section
end
abbrev Ps (α:Type):=Δ->Option (α×Δ)
section
end
section
end
section
end
section
end
section
end
theorem MG.addP {g:Gr} (h:MG g) {p:Pr} (hn:∀q∈g.prods,q.name≠p.name) (hl:∀k,p.name≠ba k) (hp:PrI g.conds.length g.nons.length p):MG {g with prods:=g.prods++[p]}:=by
 refine ⟨h.cs,h.fam,h.nons,h.start,h.toks,⟨?_,λq hq k hk hk2=> ?_⟩,λq hq=> ?_,⟨dM (g:=g) (g':={g with prods:=g.prods++[p]}) rfl (by show _<=(g.prods++[p]).length;rw [SF];omega) _ _ h.lvs.1,h.lvs.2⟩,λx hx=>⟨ph (h.fils x hx).1,(h.fils x hx).2⟩⟩
 ·show ((g.prods++[p]).map Pr.name).Nodup;rw [Tf,S7];refine ⟨h.names.1,by simp,λx hx y hy=> ?_⟩;rw [S4,List.map_nil,SA] at hy;obtain ⟨q,hq,rfl⟩:=SL.1 hx;rw [hy];exact hn q hq
 ·replace hk:(g.prods++[p]).length<=k:=hk;rw [SF,SO] at hk;rcases SD.1 hq with hq|hq
  ·exact h.names.2 q hq k (by omega) hk2
  ·rw [SA.1 hq];exact hl k
 ·rcases SD.1 hq with hq|hq
  ·exact h.prods q hq
  ·rw [SA.1 hq];exact hp
theorem Bd.addP {g:Gr} {a b:Nat} (h:Bd g a b) (p:Pr):Bd {g with prods:=g.prods++[p]} (a+1) b:=by have hp:=h.p;exact ⟨h.c,h.n0,h.n,by show (g.prods++_).length≠0;rw [SF,SO];omega,by show (g.prods++[_]).length<=_;rw [SF,SO];omega,h.t,h.l,h.lp,h.f⟩
theorem wC (g:Gr) (y:Ru):(ruleG g y).prods=g.prods/\(ruleG g y).nons=g.nons:=by
 unfold ruleG lS jA tokG
 repeat' split
 all_goals exact ⟨rfl,rfl⟩
theorem lJ:∀(l:List Ru) (g:Gr),(dL l g).prods=g.prods/\(dL l g).nons=g.nons
 |[],g=>⟨rfl,rfl⟩
 |y::l,g=>by have:=lJ l (ruleG g y);have h2:=wC g y;exact ⟨this.1.trans h2.1,this.2.trans h2.2⟩
theorem yv (x:Rw) (g:Gr):(famG x g).prods=g.prods/\(famG x g).nons=g.nons:=by unfold famG;split<;>exact ⟨rfl,rfl⟩
def LB (p:Pr):Prop:=∃s∈p.right,s.t=true
def LC (p:Pr):Prop:=∀s∈p.right,s.t=false->p.left<s.i
theorem ED (p:Pr) (m:Nat):(cq p m).left=p.left/\(cq p m).right=p.right:=by
 unfold cq
 repeat' split
 all_goals exact ⟨rfl,rfl⟩
theorem yw {l:List Sy} (h:dy l≠0):∃s∈l,s.t=true:=by have:(l.filter (·.t))≠[]:=λe=>h (by unfold dy;rw [e];rfl);obtain ⟨s,hs⟩:=List.exists_mem_of_ne_nil _ this;exact ⟨s,(Ub.1 hs).1,(Ub.1 hs).2⟩
theorem lK {x:Rw}:∀(l:List Ln) (g:Gr),(dx x l g).nons=g.nons/\∀p∈(dx x l g).prods,p∈g.prods\/((∃k,p.name=ba k)/\(LB p\/(bH x=false/\LC p)))
 |[],g=>⟨rfl,λp hp=> .inl hp⟩
 |y::l,g=>by
  obtain ⟨e,ih⟩:=lK l (lineG g y (bH x));have e':(dx x (y::l) g)=dx x l (lineG g y (bH x)):=rfl;rw [e'];by_cases hc:dy (aM g.nons.length y)=0/\(bH x=true\/cM (y.left % g.nons.length) (aM g.nons.length y)=false)
  ·have e2:lineG g y (bH x)=g:=by unfold lineG;rw [if_pos hc]
   rw [e2] at e ih ⊢;exact ⟨e,ih⟩
  ·have e2:lineG g y (bH x)={g with prods:=g.prods++[cq (iL g y) y.mark]}:=by unfold lineG;rw [if_neg hc]
   rw [e2] at e ih ⊢;refine ⟨e,λp hp=> ?_⟩;rcases ih p hp with h|h
   ·rcases SD.1 h with h|h
    ·exact .inl h
    ·refine .inr ?_;rw [SA.1 h];obtain ⟨m1,m2⟩:=ED (iL g y) y.mark;refine ⟨⟨g.prods.length,by rw [pi];rfl⟩,?_⟩;unfold LB LC;rw [m1,m2];by_cases ht:dy (aM g.nons.length y)=0
     ·refine .inr ⟨?_,λs hs hst=> ?_⟩
      ·cases hk:bH x with
       |false=>rfl
       |true=>exact absurd ⟨ht,.inl hk⟩ hc
      ·have hl:cM (y.left % g.nons.length) (aM g.nons.length y)=true:=by
        cases hl:cM (y.left % g.nons.length) (aM g.nons.length y) with
        |true=>rfl
        |false=>exact absurd ⟨ht,.inr hl⟩ hc
       unfold cM at hl;rw [Tc] at hl;have:=hl s hs;rw [hst,Ui] at this;exact of_decide_eq_true this
     ·exact .inl (yw ht)
   ·exact .inr h
theorem yx (x:Rw):(cZ x).nons=(de x).nons/\∀p∈(cZ x).prods,p∈(de x).prods\/((∃k,p.name=ba k)/\(LB p\/(bH x=false/\LC p))):=by unfold cZ;obtain ⟨a1,a2⟩:=lJ (x.rules.take 6) (dx x (x.lines.take (cG x)) (famG x (de x)));obtain ⟨b1,b2⟩:=lK (x:=x) (x.lines.take (cG x)) (famG x (de x));obtain ⟨c1,c2⟩:=yv x (de x);rw [a1,a2,b1,c2];refine ⟨rfl,λp hp=> ?_⟩;have:=b2 p hp;rwa [c1] at this
def eY (k:Nat):ByteArray:=⟨#[113]⟩++⟨#[UInt8.ofNat (97+k)]⟩
def Hl:ByteArray:=⟨#[99,121,99,108,101]⟩
def B4:ByteArray:=⟨#[110,111,116,104,105,110,103]⟩
def mD (s:ByteArray):Prop:=(s.size≠2\/s.data[0]?≠some 113)/\s≠Hl/\s≠B4
instance (s:ByteArray):Decidable (mD s):=by unfold mD;infer_instance
theorem LD {s:ByteArray} (h:mD s) (k:Nat):s≠eY k:=λe=>by
 rcases h.1 with h|h
 ·exact h (by rw [e];rfl)
 ·exact h (by rw [e];rfl)
theorem B5 (k:Nat):mD (ba k):=⟨.inr (by show some 112≠some 113;decide),λe=>by
 have:=congrArg ByteArray.size e;exact absurd this (by show (2:Nat)≠5;decide),λe=>by
 have:=congrArg ByteArray.size e
 exact absurd this (by show (2:Nat)≠7;decide)⟩
theorem yy (k i:Nat):eY k≠ba i:=λe=>by have h1:(#[113,UInt8.ofNat (97+k)]:Array UInt8)= #[112,UInt8.ofNat (97+i)]:=congrArg ByteArray.data e;have h2:=congrArg (λa=>a[0]?) h1;simp at h2
theorem B6 {i k:Nat} (hi:i<100) (hk:k<100) (h:eY i=eY k):i=k:=by
 have h1:(#[113,UInt8.ofNat (97+i)]:Array UInt8)= #[113,UInt8.ofNat (97+k)]:=congrArg ByteArray.data h;have h2:=congrArg (λa=>a[1]?) h1;have h3:UInt8.ofNat (97+i)=UInt8.ofNat (97+k):=by simpa using h2
 have h4:=congrArg UInt8.toNat h3;simp at h4;omega
theorem wD {k:Nat} (hk:k<6):(∀s∈(bY k).prods.map Pr.name,mD s)/\∀s∈(bY k).nons,s.size=1:=by
 have h:k=0\/k=1\/k=2\/k=3\/k=4\/k=5:=by omega
 rcases h with rfl|rfl|rfl|rfl|rfl|rfl
 ·exact ⟨by show ∀s∈cw.prods.map Pr.name,mD s;decide,by show ∀s∈cw.nons,s.size=1;decide⟩
 ·exact ⟨by show ∀s∈bW.prods.map Pr.name,mD s;decide,by show ∀s∈bW.nons,s.size=1;decide⟩
 ·exact ⟨by show ∀s∈cU.prods.map Pr.name,mD s;decide,by show ∀s∈cU.nons,s.size=1;decide⟩
 ·exact ⟨by show ∀s∈jh.prods.map Pr.name,mD s;decide,by show ∀s∈jh.nons,s.size=1;decide⟩
 ·exact ⟨by show ∀s∈gu.prods.map Pr.name,mD s;decide,by show ∀s∈gu.nons,s.size=1;decide⟩
 ·exact ⟨by show ∀s∈gx.prods.map Pr.name,mD s;decide,by show ∀s∈gx.nons,s.size=1;decide⟩
theorem wE (x:Rw):(∀p∈(de x).prods,mD p.name)/\∀s∈(de x).nons,s.size=1:=by
 unfold de;split
 ·rename_i h;obtain ⟨h1,h2⟩:=wD (of_decide_eq_true h);exact ⟨λp hp=>h1 _ (List.mem_map_of_mem hp),h2⟩
 ·refine ⟨λp hp=> ?_,λs hs=> ?_⟩
  ·rw [SA.1 hp];decide
  ·have:∀s∈([⟨#[83]⟩,⟨#[80]⟩,⟨#[81]⟩]:List ByteArray),s.size=1:=by decide
   exact this s (T3 hs)
theorem yz (x:Rw):(∀p∈(cZ x).prods,mD p.name)/\∀s∈(cZ x).nons,s.size=1:=by
 obtain ⟨h1,h2⟩:=yx x;obtain ⟨a1,a2⟩:=wE x;refine ⟨λp hp=> ?_,by rw [h1];exact a2⟩;rcases h2 p hp with h|⟨⟨k,h⟩,_⟩
 ·exact a1 p h
 ·rw [h];exact B5 k
def bS (nn b:Nat):Sy:=if 200<b then ⟨true,((b % 9:Nat):Int)⟩ else ⟨false,((b % nn:Nat):Int)⟩
noncomputable def mE (g:Gr) (i:Nat) (y:Ln):Pr:={bA (eY i) ((y.left % g.nons.length:Nat):Int) ((y.right.take 3).map (bS g.nons.length)) with cond:=dia (iv y.cond g.conds.length)}
noncomputable def EE (g:Gr) (i:Nat) (y:Ln):Gr:={g with prods:=g.prods++[mE g i y]}
noncomputable def eA (g:Gr):Nat->List Ln->Gr
 |_,[]=>g
 |i,y::l=>eA (EE g i y) (i+1) l
noncomputable def fO (x:Rw) (more:List Ln):Gr:=eA (cZ x) 0 (more.take 4)
theorem nC (y:Ln):∀(l:List Ln) (g:Gr) (i:Nat),eA g i (l++[y])=EE (eA g i l) (i+l.length) y
 |[],g,i=>rfl
 |z::l,g,i=>by rw [Tm];unfold eA;rw [nC y l,ST];congr 1;omega
theorem B7 {g:Gr} (i:Nat) (y:Ln) (hc:g.conds.length<=3) (hn:g.nons.length≠0):PrI g.conds.length g.nons.length (mE g i y):=by
 have hlen:((y.right.take 3).map (bS g.nons.length)).length<=3:=by rw [SM,SR];omega
 refine ⟨⟨_,jb (by omega),rfl⟩,⟨by show (0:Int)<=((y.left % g.nons.length:Nat):Int);omega,?_⟩,by show ((y.right.take 3).map _).length<=5;omega,λs hs=> ?_,⟨by show (-1:Int)<=0;decide,by show (0:Int)<=1;decide⟩,by show 0<=2;decide,⟨λy hy=>(by cases hy),iJ _ _ _,iJ _ _ _,λh=>(by cases h)⟩,?_,?_⟩
 ·show ((y.left % g.nons.length:Nat):Int)<_;have:=TC y.left (T9 hn);omega
 ·obtain ⟨b,hb,rfl⟩:=SL.1 (show s∈(y.right.take 3).map (bS g.nons.length) from hs);unfold bS;split
  ·exact ⟨by show (0:Int)<=((b % 9:Nat):Int);omega,λ_=>by show ((b % 9:Nat):Int)<9;omega,λh=>(by cases h)⟩
  ·refine ⟨by show (0:Int)<=((b % g.nons.length:Nat):Int);omega,λh=>(by cases h),λ_=> ?_⟩;show ((b % g.nons.length:Nat):Int)<_;have:=TC b (T9 hn);omega
 ·intro e;have h2:(2:Nat)=0:=congrArg ByteArray.size (show eY i=emp from e);cases h2
 ·show (eY i).size<=13;show 2<=13;decide
structure LG (g:Gr) (i:Nat):Prop where
 mg:MG g
 bd:Bd g (18+i) 10
 nm:∀p∈g.prods,∀k,i<=k->k<100->p.name≠eY k
theorem LG.made (x:Rw):LG (cZ x) 0:=⟨(y8 x).1,(y8 x).2,λp hp k _ _=>LD ((yz x).1 p hp) k⟩
theorem LG.add {g:Gr} {i:Nat} (h:LG g i) (hi:i<50) (y:Ln):LG (EE g i y) (i+1):=by
 refine ⟨h.mg.addP (λq hq=>h.nm q hq i (SC _) (by omega)) (λk=>yy i k) (B7 i y h.bd.c h.bd.n0),h.bd.addP _,λp hp k hk hk2=> ?_⟩;rcases SD.1 (show p∈g.prods++[mE g i y] from hp) with hp|hp
 ·exact h.nm p hp k (by omega) hk2
 ·rw [SA.1 hp];intro e;have:=B6 (by omega) hk2 (show eY i=eY k from e);omega
theorem LG.list:∀(l:List Ln) {g:Gr} {i:Nat},LG g i->i+l.length<50->LG (eA g i l) (i+l.length)
 |[],_,_,h,_=>h
 |y::l,g,i,h,hl=>by rw [ST] at hl ⊢;have:=LG.list l (h.add (by omega) y) (by omega);rwa [show i+1+l.length=i+(l.length+1) by omega] at this
theorem EF (x:Rw) (more:List Ln):LG (fO x more) (min 4 more.length):=by have:=LG.list (more.take 4) (LG.made x) (by rw [SR];omega);rwa [SR,SP] at this
section
variable {g:Gr} {i:Nat}
theorem LG.ok (h:LG g i) (hi:i<=50):OkK g g.conds.length:=⟨h.mg.ok h.bd (by omega) (by decide),rfl,by have:=h.bd.c;omega⟩
theorem LG.rl (h:LG g i):∀x∈g.prods,x.right.length<=1000000:=λx hx=>by have:=(h.mg.prods x hx).rl;omega
end
end Go.Proofs.YtcemhghkipgdiaaGreatDoor
