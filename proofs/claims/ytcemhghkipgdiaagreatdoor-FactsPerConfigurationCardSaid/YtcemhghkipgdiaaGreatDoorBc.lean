/-
  Made grammars with further productions: they are valid; which productions a made grammar has.
-/
import Derived.Test.YtcemhghkipgdiaaGreatDoorCd
import Derived.Test.YtcemhghkipgdiaaGreatDoorCc
import Derived.Test.YtcemhghkipgdiaaGreatDoorGkoineref05
import Derived.Test.YtcemhghkipgdiaaGreatDoorQm
import Derived.Test.YtcemhghkipgdiaaGreatDoorEd
import Derived.Test.YtcemhghkipgdiaaGreatDoorPhn
import Derived.Test.YtcemhghkipgdiaaGreatDoorQr
import Derived.Test.YtcemhghkipgdiaaGreatDoorIo
import Derived.Test.YtcemhghkipgdiaaGreatDoorAc
import Derived.Test.YtcemhghkipgdiaaGreatDoorGbits
import Derived.Test.YtcemhghkipgdiaaGreatDoorEs
import Derived.Test.YtcemhghkipgdiaaGreatDoorHr
import Derived.Test.YtcemhghkipgdiaaGreatDoorAt
import Derived.Test.YtcemhghkipgdiaaGreatDoorAm
namespace Go.Proofs.YtcemhghkipgdiaaGreatDoor
open Go Go.Proofs.Tryz Tr
set_option maxRecDepth 10000
abbrev RT6 (F:PH):VR:=λr F'=>r=.bool true/\F.le F'
structure SnK (F G:PH) (b1 b2 b5:Nat) (c n t s:Sl):Prop where
 lF:F.le G
 hT:Tab G
 q1:∃w,G b1=some (.cells w 31)/\DV G w aP
 q2:∃w,G b2=some (.cells w 31)/\DV G w (dia (tv 0))
 q5:∃w,G b5=some (.cells w 31)/\DV G w (dia (leaf false))
 c:RL G c (cI nST).conds
 n:RL G n aP.1
 t:RL G t dL
 s:RL G s nST
section
variable {F G G' F1:PH} {b1 b2 b5 b6:Nat} {c n t s p:Sl}
theorem SnK.le (K:SnK F G b1 b2 b5 c n t s) (l:G.le G'):SnK F G' b1 b2 b5 c n t s:=
 ⟨aa K.lF l,K.hT.le l,by obtain ⟨w,a,b⟩:=K.q1;exact ⟨w,l _ _ a,b.le l⟩,by obtain ⟨w,a,b⟩:=K.q2;exact ⟨w,l _ _ a,b.le l⟩,by obtain ⟨w,a,b⟩:=K.q5;exact ⟨w,l _ _ a,b.le l⟩,K.c.le l,K.n.le l,K.t.le l,K.s.le l⟩
theorem SnK.gv (K:SnK F G b1 b2 b5 c n t s) {l:List Pr} (hp:RL G p l):GV G ((cI nST).arr c n t s p Sl.nil Sl.nil) (sgG l):=
 ⟨c,n,t,s,p,Sl.nil,Sl.nil,rfl,K.c,K.n,K.t,K.s,hp,RL.nil G,RL.nil G⟩
theorem B2 {S:Int->Tr} {t u:Tr} (h0:S 0=t) (h1:S 1=u):fQ S 2=[dia t,dia u]:=by subst h0 h1;rfl
theorem fa:Sx 2 (tv 0):=Sx.tv (by decide) (by decide)
theorem Gu {l:List Pr} (h:MG (sgG l)) (h0:l.length≠0) (h1:l.length<=3):Sz (sgG l):=h.sz (LC h0 h1)
theorem Ud (C:Int->Tr) (h:mR 2 2 sp2 (aK (sgG sp2)) C):fQ C 2=[dia (tv 0),dia (tv 0)]:=by
 refine B2 (iI (h.sx 0) fa.1 λc=> ?_) (iI (h.sx 1) fa.1 λc=> ?_)
 ·rw [iV,<- Ab (n:=0) (.inl rfl)];exact h.iff 0 c (by decide)
 ·rw [iV,<- Ab (n:=1) (.inr rfl)];exact h.iff 1 c (by decide)
theorem Ue (C:Int->Tr) (h:mR 2 2 sp3 (aK (sgG sp3)) C):fQ C 2=[dia (tv 0),dia (leaf false)]:=by refine B2 (iI (h.sx 0) fa.1 λc=> ?_) (ui (h.sx 1) λc hc=>Jc ((h.iff 1 c (by decide)).1 hc));rw [iV,<- Jb];exact h.iff 0 c (by decide)
theorem IW {t u:Tr} (ht:Sx 2 t) (hu:Sx 2 u):∀d∈[dia t,dia u],Fit d.1.length:=λd hd=>by
 rcases UT.1 hd with rfl|hd
 ·exact pV ht (by decide)
 ·rw [UU.1 hd];exact pV hu (by decide)
theorem RA (K:SnK F G b1 b2 b5 c n t s) (h:St G F1 [pt b6 (.cells ((cI nST).arr c n t s p Sl.nil Sl.nil) 37)]):r7 b1 b2 b5 b6 true true (RT6 F) F1:=by unfold r7;obtain ⟨w1,q1,d1⟩:=K.q1;obtain ⟨w2,q2,d2⟩:=K.q2;obtain ⟨w5,q5,d5⟩:=K.q5;have r1:∀{G' F':PH} {As:List (Ψ)},G.le G'->St G' F' As->F'.row (Addr.mk b1 0 none) w1:=λl h=>ac (h.le _ _ (l _ _ q1));have r2:∀{G' F':PH} {As:List (Ψ)},G.le G'->St G' F' As->F'.row (Addr.mk b2 0 none) w2:=λl h=>ac (h.le _ _ (l _ _ q2));have e:=aq G;refine ⟨w2,d2.size,r2 e h,w1,d1.size,r1 e h,w1,d1.size,r1 e h,?_⟩;refine h.runv (ie 1 _) λG2 F2 l2 h=>⟨_,rfl,r1 l2 h,r1 l2 h,r2 l2 h,?_⟩;refine h.runv (ie 0 _) λG3 F3 l3 h=> ?_;replace l3:=aa l2 l3;refine ⟨_,rfl,r1 l3 h,r1 l3 h,r2 l3 h,?_⟩;refine h.runv (ie 1 _) λG4 F4 l4 h=> ?_;replace l4:=aa l3 l4;refine ⟨_,rfl,r1 l4 h,r1 l4 h,r2 l4 h,rfl,rfl,rfl,?_⟩;refine h.newG λb166 G5 F5 l5 q166 _ h=> ?_;replace l5:=aa l4 l5;have hr1:RL G5 (Sl.mk (some (Addr.mk b166 0 none)) 3 3) ([⟨false,1⟩,⟨false,0⟩,⟨false,1⟩]:List Sy):=B6 (n:=2) q166 rfl rfl rfl rfl rfl;refine h.run (cZ ⟨#[115]⟩ 0 hr1 (d2.le l5)) λ_ G6 F6 hv6 l6 h=> ?_;obtain ⟨v6,rfl,hv6⟩:=hv6;replace l6:=aa l5 l6;refine ⟨v6,rfl,r1 l6 h,r1 l6 h,?_⟩;refine h.runv (kB 0 _) λG7 F7 l7 h=> ?_;have l67:=l7;replace l7:=aa l6 l7;refine ⟨_,rfl,r1 l7 h,r1 l7 h,rfl,?_⟩;refine h.newG λb170 G8 F8 l8 q170 _ h=> ?_;have l68:=aa l67 l8;replace l8:=aa l7 l8;have hr2:RL G8 (Sl.mk (some (Addr.mk b170 0 none)) 1 1) ([⟨true,0⟩]:List Sy):=B5 q170 rfl;refine h.run (cZ ⟨#[116]⟩ 0 hr2 (d1.le l8)) λ_ G9 F9 hv9 l9 h=> ?_;obtain ⟨v9,rfl,hv9⟩:=hv9;have l69:=aa l68 l9;replace l9:=aa l8 l9;refine ⟨v9,rfl,r1 l9 h,?_⟩;refine h.run (cZ ⟨#[117]⟩ 1 (RL.nil G9) (d1.le l9)) λ_ G10 F10 hv10 l10 h=> ?_;obtain ⟨v10,rfl,hv10⟩:=hv10;refine ⟨v10,rfl,Mem.len hv6,Mem.len hv9,Mem.len hv10,?_⟩;refine h.newG λb174 G11 F11 l11 q174 _ h=> ?_;have l1011:=aa l10 l11;have hps:RL G11 (Sl.mk (some (Addr.mk b174 0 none)) 3 3) sp3:=B6 (n:=13) q174 rfl rfl (Mem.le (aa l69 l1011) hv6) (Mem.le l1011 hv9) (Mem.le l11 hv10);replace l11:=aa l9 l1011;refine h.set0 (w':=(cI nST).arr c n t s (Sl.mk (some (Addr.mk b174 0 none)) 3 3) Sl.nil Sl.nil) (by show 5<9;decide) rfl λF12 h=> ?_;have K11:=K.le l11;refine ⟨_,rfl,ac (h.ptAt (i:=0) rfl),?_⟩;refine h.run (iP K11.hT (K11.gv hps) (Gu z9 (by decide) (by decide)) sg3.ok) λ_ G13 F13 hr l13 h=> ?_;obtain ⟨sl,ds,rfl,⟨C,hC,rfl⟩,hds⟩:=hr;rw [show fQ C (sgG sp3).nons.length=[dia (tv 0),dia (leaf false)] from Ue C hC] at hds;replace l13:=aa l11 l13;refine ⟨sl,_,rfl,λ_=>⟨λ_=>⟨λ_=> ?_,λhn=>absurd rfl hn⟩,λhn=>(by cases hn)⟩,λhn=>(by cases hn)⟩;refine ⟨w2,d2.size,r2 l13 h,w5,d5.size,ac (h.le _ _ (l13 _ _ q5)),d2.size,d5.size,?_⟩;refine h.newG λb193 G14 F14 l14 q193 _ h=> ?_;have hl2:RL G14 (Sl.mk (some (Addr.mk b193 0 none)) 2 2) [dia (tv 0),dia (leaf false)]:=uj (n:=2) q193 rfl rfl (show DV G14 w2 _ from d2.le (aa l13 l14)) (show DV G14 w5 _ from d5.le (aa l13 l14));refine h.run (fj (hds.le l14) hl2 (IW fa (Sx.leaf 2 false)) (by decide)) λr G15 F15 hr l15 h=> ?_;subst hr;exact ⟨_,rfl,by rw [decide_eq_true rfl],aa K.lF (aa l13 (aa l14 (aa l15 h.le)))⟩
theorem RB (K:SnK F G b1 b2 b5 c n t s) (h:St G F1 [pt b6 (.cells ((cI nST).arr c n t s p Sl.nil Sl.nil) 37)]):kS b1 b2 b5 b6 true (RT6 F) F1:=by
 unfold kS;obtain ⟨w1,q1,d1⟩:=K.q1;obtain ⟨w2,q2,d2⟩:=K.q2;have r1:∀{G' F':PH} {As:List (Ψ)},G.le G'->St G' F' As->F'.row (Addr.mk b1 0 none) w1:=λl h=>ac (h.le _ _ (l _ _ q1));have r2:∀{G' F':PH} {As:List (Ψ)},G.le G'->St G' F' As->F'.row (Addr.mk b2 0 none) w2:=λl h=>ac (h.le _ _ (l _ _ q2));have e:=aq G;refine ⟨w1,d1.size,r1 e h,w2,d2.size,r2 e h,w1,d1.size,r1 e h,?_⟩;refine h.runv (ie 1 _) λG2 F2 l2 h=>⟨_,rfl,r1 l2 h,r2 l2 h,r1 l2 h,rfl,?_⟩;refine h.newG λb131 G3 F3 l3 q131 _ h=> ?_;replace l3:=aa l2 l3;have hr1:RL G3 (Sl.mk (some (Addr.mk b131 0 none)) 1 1) ([⟨false,1⟩]:List Sy):=B5 q131 rfl;refine h.run (cZ ⟨#[115]⟩ 0 hr1 (d1.le l3)) λ_ G6 F6 hv6 l6 h=> ?_;obtain ⟨v6,rfl,hv6⟩:=hv6;replace l6:=aa l3 l6;refine ⟨v6,rfl,r1 l6 h,r2 l6 h,?_⟩;refine h.runv (ie 0 _) λG7 F7 l7 h=> ?_;have l67:=l7;replace l7:=aa l6 l7;refine ⟨_,rfl,r1 l7 h,r2 l7 h,rfl,?_⟩;refine h.newG λb135 G8 F8 l8 q135 _ h=> ?_;have l68:=aa l67 l8;replace l8:=aa l7 l8;have hr2:RL G8 (Sl.mk (some (Addr.mk b135 0 none)) 1 1) ([⟨false,0⟩]:List Sy):=B5 q135 rfl;refine h.run (cZ ⟨#[116]⟩ 1 hr2 (d2.le l8)) λ_ G9 F9 hv9 l9 h=> ?_;obtain ⟨v9,rfl,hv9⟩:=hv9;have l69:=aa l68 l9;replace l9:=aa l8 l9;refine ⟨v9,rfl,r1 l9 h,?_⟩;refine h.runv (kB 0 _) λG10 F10 l10 h=> ?_;have l910:=l10;replace l10:=aa l9 l10;refine ⟨_,rfl,r1 l10 h,rfl,?_⟩;refine h.newG λb139 G11 F11 l11 q139 _ h=> ?_;have l911:=aa l910 l11;replace l11:=aa l10 l11;have hr3:RL G11 (Sl.mk (some (Addr.mk b139 0 none)) 1 1) ([⟨true,0⟩]:List Sy):=B5 q139 rfl;refine h.run (cZ ⟨#[117]⟩ 1 hr3 (d1.le l11)) λ_ G12 F12 hv12 l12 h=> ?_;obtain ⟨v12,rfl,hv12⟩:=hv12;have l912:=aa l911 l12;replace l12:=aa l11 l12;refine ⟨v12,rfl,Mem.len hv6,Mem.len hv9,Mem.len hv12,?_⟩;refine h.newG λb141 G13 F13 l13 q141 _ h=> ?_;have hps:RL G13 (Sl.mk (some (Addr.mk b141 0 none)) 3 3) sp2:=B6 (n:=13) q141 rfl rfl (Mem.le (aa l69 (aa l912 l13)) hv6) (Mem.le (aa l912 l13) hv9) (Mem.le l13 hv12);replace l13:=aa l12 l13;refine h.set0 (w':=(cI nST).arr c n t s (Sl.mk (some (Addr.mk b141 0 none)) 3 3) Sl.nil Sl.nil) (by show 5<9;decide) rfl λF14 h=> ?_;have K13:=K.le l13;have sz:=Gu z8 (by decide) (by decide);refine ⟨_,rfl,ac (h.ptAt (i:=0) rfl),?_⟩;refine h.run (iP K13.hT (K13.gv hps) sz sg2.ok) λ_ G15 F15 hr l15 h=> ?_;obtain ⟨sl,ds,rfl,⟨C,hC,rfl⟩,hds⟩:=hr;rw [show fQ C (sgG sp2).nons.length=[dia (tv 0),dia (tv 0)] from Ud C hC] at hds;have l1315:=l15;replace l15:=aa l13 l15;refine ⟨sl,_,rfl,λ_=> ?_,λhn=>absurd rfl hn⟩;refine ⟨w2,d2.size,r2 l15 h,w2,d2.size,r2 l15 h,d2.size,d2.size,?_⟩;refine h.newG λb154 G16 F16 l16 q154 _ h=> ?_;have hl2:RL G16 (Sl.mk (some (Addr.mk b154 0 none)) 2 2) [dia (tv 0),dia (tv 0)]:=uj (n:=2) q154 rfl rfl (show DV G16 w2 _ from d2.le (aa l15 l16)) (show DV G16 w2 _ from d2.le (aa l15 l16));refine h.run (fj (hds.le l16) hl2 (IW fa fa) (by decide)) λr G17 F17 hr l17 h=> ?_;subst hr;have l1317:=aa l1315 (aa l16 l17);refine ⟨_,rfl,λ_=> ?_,λhn=>(by rw [decide_eq_true rfl] at hn;cases hn)⟩;refine ⟨_,rfl,ac (h.ptAt (i:=0) rfl),?_⟩;have K17:=K13.le l1317;refine h.run (sC K17.hT (K17.gv (hps.le l1317)) sz sg2.ok) λ_ G18 F18 hr l18 h=> ?_;have hcy:kY (sgG sp2):=⟨0,λ_=>true,by decide,(Ab (c:=λ_=>true) (n:=0) (.inl rfl)).2 rfl⟩;rcases hr with ⟨_,rfl⟩|⟨hn,_⟩
 ·exact ⟨_,rfl,RA (K17.le l18) h⟩
 ·exact absurd hcy hn
theorem IX {F:PH} (hT:Tab F):ai prog 12 #[] F (RT6 F):=by
 refine Uk ?_;unfold RR;refine (St.start F).run (fW F) λr G1 F1 hr l1 h=> ?_;obtain ⟨w1,rfl,d1⟩:=hr;refine ⟨w1,rfl,?_⟩;refine h.var d1.st (λb1 G2 F2 l2 q1 h=> ?_) rfl d1.size;replace d1:=d1.le l2;replace l2:=aa l1 l2;refine h.run (jw 0 (by decide) _) λr G3 F3 hr l3 h=> ?_;obtain ⟨w2,rfl,d2⟩:=hr;refine ⟨w2,rfl,?_⟩;refine h.var d2.st (λb2 G4 F4 l4 q2 h=> ?_) rfl d2.size;replace d2:=d2.le l4;have l24:=aa l3 l4;refine h.run (jw 1 (by decide) _) λr G5 F5 hr l5 h=> ?_;obtain ⟨w3,rfl,d3⟩:=hr;refine ⟨w3,rfl,?_⟩;refine h.var d3.st (λb3 G6 F6 l6 q3 h=> ?_) rfl d3.size;replace d3:=d3.le l6;have l46:=aa l5 l6;refine ⟨w2,d2.size,ac (h.le _ _ (l46 _ _ q2)),w3,d3.size,ac (h.le _ _ q3),?_⟩;have tv1_ok:Sx 2 (tv 1):=Sx.tv (by decide) (by decide);refine h.run (P:=λr G'=>∃u,r=.agg u/\DV G' u (dia r5)) ((kO (d2.le l46) d3 (fa.f2 tv1_ok (by decide))).mono λ_ _ ⟨w,h1,h2,h3⟩=>⟨⟨w,h1,h2⟩,h3⟩) λ_ G7 F7 hr l7 h=> ?_;obtain ⟨w4,rfl,d4⟩:=hr;refine ⟨w4,rfl,?_⟩;refine h.var d4.st (λb4 G8 F8 l8 q4 h=> ?_) rfl d4.size;replace d4:=d4.le l8;have l68:=aa l7 l8;refine h.run (P:=λr G'=>∃u,r=.agg u/\DV G' u (dia (leaf false))) ((dy false).mono λ_ _ ⟨w,h1,h2,h3⟩=>⟨⟨w,h1,h2⟩,h3⟩) λ_ G9 F9 hr l9 h=> ?_;obtain ⟨w5,rfl,d5⟩:=hr;refine ⟨w5,rfl,?_⟩;refine h.var d5.st (λb5 G10 F10 l10 q5 h=> ?_) rfl d5.size;replace d5:=d5.le l10;have l810:=aa l9 l10;refine h.newG λb26 G11 F11 l11 q26 _ h=> ?_;have hns:RL G11 (Sl.mk (some (Addr.mk b26 0 none)) 2 2) nST:=RL.strs.2 (RdS.new q26 rfl rfl (UW _));refine h.run (mY hns) λ_ G12 F12 hr l12 h=> ?_;obtain ⟨c,n,t,rfl,hc,hn,ht,hs⟩:=hr;refine ⟨_,rfl,?_⟩;refine h.new λb6 F13 h=> ?_;refine h.put0 (w':=(cI nST).arr c n t (Sl.mk (some (Addr.mk b26 0 none)) 2 2) Sl.nil Sl.nil Sl.nil) rfl rfl (by simp [ak,Sl.v]) λF14 h=> ?_;have l1012:=aa l11 l12;have l812:=aa l810 l1012;have l612:=aa l68 l812;have l412:=aa l46 l612;have l212:=aa l24 l412;have l012:=aa l2 l212;have K:SnK F G12 b1 b2 b5 c n t (Sl.mk (some (Addr.mk b26 0 none)) 2 2):=⟨l012,hT.le l012,⟨w1,l212 _ _ q1,d1.le l212⟩,⟨w2,l412 _ _ q2,d2.le l412⟩,⟨w5,l1012 _ _ q5,d5.le l1012⟩,hc,hn,ht,hs⟩;generalize Sl.mk (some (Addr.mk b26 0 none)) 2 2=s at*;replace q1:=l212 _ _ q1;replace d1:=d1.le l212;replace q2:=l412 _ _ q2;replace d2:=d2.le l412;replace q3:=l612 _ _ q3;replace d3:=d3.le l612;replace q4:=l812 _ _ q4;replace d4:=d4.le l812;have r1:∀{G' F':PH} {As:List (Ψ)},G12.le G'->St G' F' As->F'.row (Addr.mk b1 0 none) w1:=λl h=>ac (h.le _ _ (l _ _ q1));have r2:∀{G' F':PH} {As:List (Ψ)},G12.le G'->St G' F' As->F'.row (Addr.mk b2 0 none) w2:=λl h=>ac (h.le _ _ (l _ _ q2));have r3:∀{G' F':PH} {As:List (Ψ)},G12.le G'->St G' F' As->F'.row (Addr.mk b3 0 none) w3:=λl h=>ac (h.le _ _ (l _ _ q3));have e:=aq G12;refine ⟨w1,d1.size,r1 e h,w2,d2.size,r2 e h,w3,d3.size,r3 e h,?_⟩;refine h.runv (kB 0 _) λG13 F15 l13 h=>⟨_,rfl,r3 l13 h,r2 l13 h,r1 l13 h,?_⟩;refine h.runv (ie 1 _) λG14 F16 l14 h=> ?_;replace l14:=aa l13 l14;refine ⟨_,rfl,r3 l14 h,r2 l14 h,r1 l14 h,rfl,rfl,?_⟩;refine h.newG λb31 G15 F17 l15 q31 _ h=> ?_;replace l15:=aa l14 l15;have hr1:RL G15 (Sl.mk (some (Addr.mk b31 0 none)) 2 2) ([⟨true,0⟩,⟨false,1⟩]:List Sy):=uj (n:=2) q31 rfl rfl rfl rfl;refine h.run (cZ ⟨#[115]⟩ 0 hr1 (d1.le l15)) λ_ G16 F18 hv1 l16 h=> ?_;obtain ⟨v1,rfl,hv1⟩:=hv1;replace l16:=aa l15 l16;refine ⟨v1,rfl,r3 l16 h,r2 l16 h,?_⟩;refine h.run (cZ ⟨#[116]⟩ 1 (RL.nil G16) (d2.le l16)) λ_ G17 F19 hv2 l17 h=> ?_;obtain ⟨v2,rfl,hv2⟩:=hv2;have m17:=l17;replace l17:=aa l16 l17;refine ⟨v2,rfl,r3 l17 h,?_⟩;refine h.runv (kB 1 _) λG18 F20 l18 h=> ?_;have m18:=l18;replace l18:=aa l17 l18;refine ⟨_,rfl,r3 l18 h,?_⟩;refine h.runv (ie 1 _) λG19 F21 l19 h=> ?_;have m19:=aa m18 l19;replace l19:=aa l18 l19;refine ⟨_,rfl,r3 l19 h,rfl,rfl,?_⟩;refine h.newG λb38 G20 F22 l20 q38 _ h=> ?_;have m20:=aa m19 l20;replace l20:=aa l19 l20;have hr3:RL G20 (Sl.mk (some (Addr.mk b38 0 none)) 2 2) ([⟨true,1⟩,⟨false,1⟩]:List Sy):=uj (n:=2) q38 rfl rfl rfl rfl;refine h.run (cZ ⟨#[117]⟩ 1 hr3 (d3.le l20)) λ_ G21 F23 hv3 l21 h=> ?_;obtain ⟨v3,rfl,hv3⟩:=hv3;have m21:=aa m20 l21;replace l21:=aa l20 l21;refine ⟨v3,rfl,Mem.len hv1,Mem.len hv2,Mem.len hv3,?_⟩;refine h.newG λb40 G22 F24 l22 q40 _ h=> ?_;have m22:=aa m21 l22;have hps:RL G22 (Sl.mk (some (Addr.mk b40 0 none)) 3 3) sp1:=B6 (n:=13) q40 rfl rfl (Mem.le (aa m17 m22) hv1) (Mem.le m22 hv2) (Mem.le l22 hv3);replace l22:=aa l21 l22;refine h.set0 (w':=(cI nST).arr c n t s (Sl.mk (some (Addr.mk b40 0 none)) 3 3) Sl.nil Sl.nil) (by show 5<9;decide) rfl λF25 h=> ?_;have K22:=K.le l22;have gv22:=K22.gv hps;have sz:=Gu z7 (by decide) (by decide);have hk:=sg1.ok;have hl:∀x∈(sgG sp1).prods,x.right.length<=1000000:=by decide
 have hp:(sgG sp1).prods.length<=1000000:=by decide
 have hns2:(sgG sp1).nons.length<=1000000:=by decide
 have hts2:(sgG sp1).toks.length<=1000000:=by decide
 refine ⟨_,rfl,ac (h.ptAt (i:=0) rfl),?_⟩;refine h.run (iJ K22.hT gv22 sz hk hl hp hns2) λ_ G23 F26 hr l23 h=> ?_;obtain ⟨sl1,S1,rfl,i1,h1⟩:=hr;refine ⟨sl1,_,rfl,_,rfl,ac (h.ptAt (i:=0) rfl),?_⟩;refine h.run (gb (K22.le l23).hT (gv22.le l23) sz hk hl hp hns2) λ_ G24 F27 hr l24 h=> ?_;obtain ⟨sl2,S2,rfl,i2,h2⟩:=hr;have n24:=aa l23 l24;refine ⟨sl2,_,rfl,_,rfl,ac (h.ptAt (i:=0) rfl),?_⟩;refine h.run (nV (K22.le n24).hT (gv22.le n24) sz hk hl hp hts2 hns2) λ_ G25 F28 hr l25 h=> ?_;obtain ⟨sl3,rows,rfl,⟨S3,i3,rfl⟩,h3⟩:=hr;have n25:=aa n24 l25;refine ⟨sl3,_,rfl,_,rfl,ac (h.ptAt (i:=0) rfl),?_⟩;refine h.run (kT (K22.le n25).hT (gv22.le n25) sz hk hl hp) λ_ G26 F29 hr l26 h=> ?_;obtain ⟨sl4,us,rfl,⟨U,i4,rfl⟩,h4⟩:=hr;have n26:=aa n25 l26;have o26:=aa l22 n26;refine ⟨sl4,_,rfl,λhn=>absurd rfl hn,λ_=>⟨λhn=>absurd rfl hn,λ_=>⟨λhn=>absurd rfl hn,λ_=>⟨λhn=>absurd rfl hn,λ_=> ?_⟩⟩⟩⟩;have el3:sl3.len=2:=h3.len (by decide);have el4:sl4.len=3:=h4.len (by decide);have et:t.len=11:=K.t.len (by decide);refine ⟨λhn=>absurd (by rw [el3];rfl) hn,λ_=> ?_⟩;refine ixc (h3.le l26) (by decide) (by omega) (by rw [el3];decide) λa83 c83 row hrow hrw hc83=> ?_;have hrow':(jz S3 (sgG sp1).toks.length (sgG sp1).nons.length)[1]? =some row:=hrow;obtain rfl:row=sY S3 11 1:=(Vl hrow').symm;obtain ⟨sr,rfl,hsr⟩:=hc83;have elr:sr.len=11:=by have:=hsr.len (by decide);rw [this];unfold sY;rw [U6,Vw]
 have c84:∀{G' F':PH} {As:List (Ψ)},G26.le G'->St G' F' As->F'.cell (Addr.add a83 (Int.toNat (1:Int)*1))=some (Sl.v sr):=λl h=>be (bJ (aa l h.le) hrw) rfl;have e26:=aq G26;refine ⟨sr,c84 e26 h,t,ld (h.ptAt (i:=0) rfl) rfl,λhn=>absurd (by rw [elr,et]) hn,λ_=>⟨λhn=>absurd (by rw [el4];rfl) hn,λ_=> ?_⟩⟩;refine ⟨w5,d5.size,ac (h.le _ _ (o26 _ _ (l1012 _ _ q5))),w2,d2.size,r2 o26 h,d5.size,d2.size,?_⟩;refine h.newG λb99 G27 F30 l27 q99 _ h=> ?_;have o27:=aa o26 l27;have hl99:RL G27 (Sl.mk (some (Addr.mk b99 0 none)) 2 2) [dia (leaf false),dia (tv 0)]:=uj (n:=2) q99 rfl rfl (show DV G27 w5 _ from d5.le (aa l1012 o27)) (show DV G27 w2 _ from d2.le o27);have z1:fQ S1 (sgG sp1).nons.length=[dia (leaf false),dia (tv 0)]:=B2 (ui (i1.sx 0) λc hc=>Ja ((i1.iff 0 c).1 hc)) (iI (i1.sx 1) fa.1 λc=>by rw [i1.iff,iV];exact ⟨rZ,jY⟩);have z2:fQ S2 (sgG sp1).nons.length=[dia (tv 0),dia (tv 0)]:=B2 (iI (i2.sx 0) fa.1 λc=>by rw [i2.iff,iV];exact ⟨rZ,I0⟩) (iI (i2.sx 1) fa.1 λc=>by rw [i2.iff,iV];exact ⟨rZ,λh=>(jY h).up⟩);rw [z1] at h1;rw [z2] at h2;refine h.run (fj (h1.le (aa l24 (aa l25 (aa l26 l27)))) hl99 (IW (Sx.leaf 2 false) fa) (by decide)) λr G28 F31 hr l28 h=> ?_;subst hr;have o28:=aa o27 l28;refine ⟨_,rfl,λ_=> ?_,λhn=>(by rw [decide_eq_true rfl] at hn;cases hn)⟩;refine ⟨w2,d2.size,r2 o28 h,w2,d2.size,r2 o28 h,d2.size,d2.size,?_⟩;refine h.newG λb105 G29 F32 l29 q105 _ h=> ?_;have o29:=aa o28 l29;have hl105:RL G29 (Sl.mk (some (Addr.mk b105 0 none)) 2 2) [dia (tv 0),dia (tv 0)]:=uj (n:=2) q105 rfl rfl (show DV G29 w2 _ from d2.le o29) (show DV G29 w2 _ from d2.le o29);refine h.run (fj (h2.le (aa l25 (aa l26 (aa l27 (aa l28 l29))))) hl105 (IW fa fa) (by decide)) λr G30 F33 hr l30 h=> ?_;subst hr;have o30:=aa o29 l30;have p30:=aa l27 (aa l28 (aa l29 l30));refine ⟨_,rfl,λ_=> ?_,λhn=>(by rw [decide_eq_true rfl] at hn;cases hn)⟩;refine ixc (h3.le (aa l26 p30)) (by decide) (by omega) (by rw [el3];decide) λa110 c110 row2 hrow2 hrw2 hc110=> ?_;have hrow2':(jz S3 (sgG sp1).toks.length (sgG sp1).nons.length)[1]? =some row2:=hrow2;obtain rfl:row2=sY S3 11 1:=(Vl hrow2').symm;obtain ⟨sr2,rfl,hsr2⟩:=hc110;have c110:∀{G' F':PH} {As:List (Ψ)},G30.le G'->St G' F' As->F'.cell (Addr.add a110 (Int.toNat (1:Int)*1))=some (Sl.v sr2):=λl h=>be (bJ (aa l h.le) hrw2) rfl;have elr2:sr2.len=11:=by have:=hsr2.len (by decide);rw [this];unfold sY;rw [U6,Vw]
 refine ⟨sr2,c110 (aq _) h,?_⟩;refine ixc hsr2 (by decide) (by omega) (by rw [elr2];decide) λa112 c112 dd hdd hrw112 hc112=>⟨c112,Mem.len hc112,bJ h.le hrw112,w4,d4.size,ac (h.le _ _ (o30 _ _ q4)),?_⟩;have hdd':(sY S3 11 1)[1]? =some dd:=hdd;have z3:S3 ((1:Int),(1:Int))=r5:=iI (i3.sx _) pU.1 λc=>by rw [i3.iff,B4];exact Nk
 obtain rfl:dd=dia r5:=by rw [<- z3];exact (Vl hdd').symm
 refine h.run (iD (show DV G30 c112 _ from hc112) (d4.le o30) (pV pU (by decide))) λr G31 F34 hr l31 h=> ?_;subst hr;have o31:=aa o30 l31;refine ⟨_,rfl,c110 l31 h,λ_=> ?_,λhn=>(by rw [decide_eq_true rfl] at hn;cases hn)⟩;refine ixc (h4.le (aa p30 l31)) (by decide) (by omega) (by rw [el4];decide) λa119 c119 du hdu hrw119 hc119=>⟨c119,Mem.len hc119,bJ h.le hrw119,w4,d4.size,ac (h.le _ _ (o31 _ _ q4)),?_⟩;have hdu':(No U (sgG sp1).prods.length)[2]? =some du:=hdu;have efam:tre (sgG sp1).fam=leaf true:=dJ (t:=leaf true) trivial;have z4:U 2=r5:=iI (i4.sx _) pU.1 λc=>by rw [i4.iff 2 c (by decide),B4,efam];exact Nl
 obtain rfl:du=dia r5:=by rw [<- z4];exact (Vl hdu').symm
 refine h.run (iD (show DV G31 c119 _ from hc119) (d4.le o31) (pV pU (by decide))) λr G32 F35 hr l32 h=> ?_;subst hr;refine ⟨_,rfl,c110 (aa l31 l32) h,λ_=> ?_,λhn=>(by rw [decide_eq_true rfl] at hn;cases hn)⟩;refine ⟨_,rfl,ac (h.ptAt (i:=0) rfl),?_⟩;have n32:=aa n26 (aa p30 (aa l31 l32));refine h.run (sC (K22.le n32).hT (gv22.le n32) sz hk) λ_ G33 F36 hr l33 h=> ?_;have hno:¬kY (sgG sp1):=by rintro ⟨m,c,_,tg⟩;obtain ⟨d,hd⟩:=tg.head;exact Nm hd
 rcases hr with ⟨hc,_⟩|⟨_,rfl⟩
 ·exact absurd hc hno
 ·exact ⟨_,rfl,c110 (aa l31 (aa l32 l33)) h,RB ((K22.le n32).le l33) h⟩
end
section
end
section
end
section
end
section
end
section
end
abbrev PrQ:=Nat×Nat
section
end
section
end
end Go.Proofs.YtcemhghkipgdiaaGreatDoor
namespace Go.Proofs.YtcemhghkipgdiaaGreatDoor
set_option maxRecDepth 10000
structure Two where
 acc:PrQ->Nat->Prop
 lnk:PrQ->PrQ->Prop
 ini:PrQ->Prop
 fin:PrQ->Prop
namespace Two
end Two
section
end
section
end
end Go.Proofs.YtcemhghkipgdiaaGreatDoor
namespace Go.Proofs.YtcemhghkipgdiaaGreatDoor
open Go Go.Proofs.Tryz
set_option maxRecDepth 10000
section
end
section
end
section
end
section
end
end Go.Proofs.YtcemhghkipgdiaaGreatDoor
namespace Go.Proofs.YtcemhghkipgdiaaGreatDoor
open Go Go.Proofs.Tryz Tr
set_option maxRecDepth 10000
section
end
section
end
section
end
section
end
section
end
abbrev Ps (α:Type):=Δ->Option (α×Δ)
section
end
section
end
section
end
section
end
def tiT (x:Tk):Prop:=x.name.size<=100/\x.lit.size<=100/\x.pat.length<=100/\x.smp.size<=100/\x.cond.1.length<=1000
def tiP (n:Nat) (x:Pr):Prop:=x.name.size<=100/\x.right.length<=n/\x.cond.1.length<=1000/\x.lay.length<=100
def tiL (x:Lv):Prop:=x.ps.length<=100/\x.cond.1.length<=1000
def tiF (x:Fi):Prop:=x.toks.length<=100/\x.cond.1.length<=1000
structure Ti (n:Nat) (g:Gr):Prop where
 c:g.conds.length<=3
 ci:∀s∈g.conds,s.size<=100
 fam:g.fam.1.length<=1000
 t:g.toks.length<=100
 ti:∀x∈g.toks,tiT x
 s:g.nons.length<=100
 si:∀s∈g.nons,s.size<=100
 p:g.prods.length<=100
 pi:∀x∈g.prods,tiP n x
 l:g.lvs.length<=n
 li:∀x∈g.lvs,tiL x
 f:g.fils.length<=n
 fi:∀x∈g.fils,tiF x
section
variable {g:Gr} {n:Nat}
theorem Ti.sm (h:Ti n g) (hn:n<=100):Sm g:=
 ⟨by have:=h.c;omega,by have:=h.fam;omega,by have:=h.t;omega,by have:=h.s;omega,by have:=h.p;omega,by have:=h.l;omega,by have:=h.f;omega,
  λx hx=>by have:=h.ti x hx;unfold tiT at this;omega,λx hx=>by have:=h.pi x hx;unfold tiP at this;omega,λx hx=>by have:=h.li x hx;unfold tiL at this;omega,λx hx=>by have:=h.fi x hx;unfold tiF at this;omega⟩
end
theorem MG.addP {g:Gr} (h:MG g) {p:Pr} (hn:∀q∈g.prods,q.name≠p.name) (hl:∀k,p.name≠bi k) (hp:PrI g.conds.length g.nons.length p):MG {g with prods:=g.prods++[p]}:=by
 refine ⟨h.cs,h.fam,h.nons,h.start,h.toks,⟨?_,λq hq k hk hk2=> ?_⟩,λq hq=> ?_,⟨d7 (g:=g) (g':={g with prods:=g.prods++[p]}) rfl (by show _<=(g.prods++[p]).length;rw [UV];omega) _ _ h.lvs.1,h.lvs.2⟩,λx hx=>⟨qi (h.fils x hx).1,(h.fils x hx).2⟩⟩
 ·show ((g.prods++[p]).map Pr.name).Nodup;rw [Vm,Vp];refine ⟨h.names.1,by simp,λx hx y hy=> ?_⟩;rw [Vi,List.map_nil,UU] at hy;obtain ⟨q,hq,rfl⟩:=U8.1 hx;rw [hy];exact hn q hq
 ·replace hk:(g.prods++[p]).length<=k:=hk;rw [UV,Va] at hk;rcases UX.1 hq with hq|hq
  ·exact h.names.2 q hq k (by omega) hk2
  ·rw [UU.1 hq];exact hl k
 ·rcases UX.1 hq with hq|hq
  ·exact h.prods q hq
  ·rw [UU.1 hq];exact hp
theorem Bd.addP {g:Gr} {a b:Nat} (h:Bd g a b) (p:Pr):Bd {g with prods:=g.prods++[p]} (a+1) b:=by have hp:=h.p;exact ⟨h.c,h.n0,h.n,by show (g.prods++_).length≠0;rw [UV,Va];omega,by show (g.prods++[_]).length<=_;rw [UV,Va];omega,h.t,h.l,h.lp,h.f⟩
theorem xR (g:Gr) (y:Ru):(ruleG g y).prods=g.prods/\(ruleG g y).nons=g.nons:=by
 unfold ruleG mW j7 tokG
 repeat' split
 all_goals exact ⟨rfl,rfl⟩
theorem mO:∀(l:List Ru) (g:Gr),(d6 l g).prods=g.prods/\(d6 l g).nons=g.nons
 |[],g=>⟨rfl,rfl⟩
 |y::l,g=>by have:=mO l (ruleG g y);have h2:=xR g y;exact ⟨this.1.trans h2.1,this.2.trans h2.2⟩
theorem zW (x:Rw) (g:Gr):(famG x g).prods=g.prods/\(famG x g).nons=g.nons:=by unfold famG;split<;>exact ⟨rfl,rfl⟩
def Nh (p:Pr):Prop:=∃s∈p.right,s.t=true
def Ni (p:Pr):Prop:=∀s∈p.right,s.t=false->p.left<s.i
theorem Gv (p:Pr) (m:Nat):(cz p m).left=p.left/\(cz p m).right=p.right:=by
 unfold cz
 repeat' split
 all_goals exact ⟨rfl,rfl⟩
theorem zX {l:List Sy} (h:dO l≠0):∃s∈l,s.t=true:=by have:(l.filter (·.t))≠[]:=λe=>h (by unfold dO;rw [e];rfl);obtain ⟨s,hs⟩:=List.exists_mem_of_ne_nil _ this;exact ⟨s,(Wj.1 hs).1,(Wj.1 hs).2⟩
theorem mP {x:Rw}:∀(l:List Ln) (g:Gr),(dN x l g).nons=g.nons/\∀p∈(dN x l g).prods,p∈g.prods\/((∃k,p.name=bi k)/\(Nh p\/(bQ x=false/\Ni p)))
 |[],g=>⟨rfl,λp hp=> .inl hp⟩
 |y::l,g=>by
  obtain ⟨e,ih⟩:=mP l (lineG g y (bQ x));have e':(dN x (y::l) g)=dN x l (lineG g y (bQ x)):=rfl;rw [e'];by_cases hc:dO (aR g.nons.length y)=0/\(bQ x=true\/cU (y.left % g.nons.length) (aR g.nons.length y)=false)
  ·have e2:lineG g y (bQ x)=g:=by unfold lineG;rw [if_pos hc]
   rw [e2] at e ih ⊢;exact ⟨e,ih⟩
  ·have e2:lineG g y (bQ x)={g with prods:=g.prods++[cz (jg g y) y.mark]}:=by unfold lineG;rw [if_neg hc]
   rw [e2] at e ih ⊢;refine ⟨e,λp hp=> ?_⟩;rcases ih p hp with h|h
   ·rcases UX.1 h with h|h
    ·exact .inl h
    ·refine .inr ?_;rw [UU.1 h];obtain ⟨m1,m2⟩:=Gv (jg g y) y.mark;refine ⟨⟨g.prods.length,by rw [qj];rfl⟩,?_⟩;unfold Nh Ni;rw [m1,m2];by_cases ht:dO (aR g.nons.length y)=0
     ·refine .inr ⟨?_,λs hs hst=> ?_⟩
      ·cases hk:bQ x with
       |false=>rfl
       |true=>exact absurd ⟨ht,.inl hk⟩ hc
      ·have hl:cU (y.left % g.nons.length) (aR g.nons.length y)=true:=by
        cases hl:cU (y.left % g.nons.length) (aR g.nons.length y) with
        |true=>rfl
        |false=>exact absurd ⟨ht,.inr hl⟩ hc
       unfold cU at hl;rw [Vv] at hl;have:=hl s hs;rw [hst,WD] at this;exact of_decide_eq_true this
     ·exact .inl (zX ht)
   ·exact .inr h
theorem zY (x:Rw):(dp x).nons=(dr x).nons/\∀p∈(dp x).prods,p∈(dr x).prods\/((∃k,p.name=bi k)/\(Nh p\/(bQ x=false/\Ni p))):=by unfold dp;obtain ⟨a1,a2⟩:=mO (x.rules.take 6) (dN x (x.lines.take (cK x)) (famG x (dr x)));obtain ⟨b1,b2⟩:=mP (x:=x) (x.lines.take (cK x)) (famG x (dr x));obtain ⟨c1,c2⟩:=zW x (dr x);rw [a1,a2,b1,c2];refine ⟨rfl,λp hp=> ?_⟩;have:=b2 p hp;rwa [c1] at this
def fw (k:Nat):ByteArray:=⟨#[113]⟩++⟨#[UInt8.ofNat (97+k)]⟩
def IY:ByteArray:=⟨#[99,121,99,108,101]⟩
def Dg:ByteArray:=⟨#[110,111,116,104,105,110,103]⟩
def nK (s:ByteArray):Prop:=(s.size≠2\/s.data[0]?≠some 113)/\s≠IY/\s≠Dg
instance (s:ByteArray):Decidable (nK s):=by unfold nK;infer_instance
theorem Nj {s:ByteArray} (h:nK s) (k:Nat):s≠fw k:=λe=>by
 rcases h.1 with h|h
 ·exact h (by rw [e];rfl)
 ·exact h (by rw [e];rfl)
theorem Dh (k:Nat):nK (bi k):=⟨.inr (by show some 112≠some 113;decide),λe=>by
 have:=congrArg ByteArray.size e;exact absurd this (by show (2:Nat)≠5;decide),λe=>by
 have:=congrArg ByteArray.size e
 exact absurd this (by show (2:Nat)≠7;decide)⟩
theorem zZ (k i:Nat):fw k≠bi i:=λe=>by have h1:(#[113,UInt8.ofNat (97+k)]:Array UInt8)= #[112,UInt8.ofNat (97+i)]:=congrArg ByteArray.data e;have h2:=congrArg (λa=>a[0]?) h1;simp at h2
theorem Di {i k:Nat} (hi:i<100) (hk:k<100) (h:fw i=fw k):i=k:=by
 have h1:(#[113,UInt8.ofNat (97+i)]:Array UInt8)= #[113,UInt8.ofNat (97+k)]:=congrArg ByteArray.data h;have h2:=congrArg (λa=>a[1]?) h1;have h3:UInt8.ofNat (97+i)=UInt8.ofNat (97+k):=by simpa using h2
 have h4:=congrArg UInt8.toNat h3;simp at h4;omega
theorem xS {k:Nat} (hk:k<6):(∀s∈(cg k).prods.map Pr.name,nK s)/\∀s∈(cg k).nons,s.size=1:=by
 have h:k=0\/k=1\/k=2\/k=3\/k=4\/k=5:=by omega
 rcases h with rfl|rfl|rfl|rfl|rfl|rfl
 ·exact ⟨by show ∀s∈cD.prods.map Pr.name,nK s;decide,by show ∀s∈cD.nons,s.size=1;decide⟩
 ·exact ⟨by show ∀s∈ce.prods.map Pr.name,nK s;decide,by show ∀s∈ce.nons,s.size=1;decide⟩
 ·exact ⟨by show ∀s∈dg.prods.map Pr.name,nK s;decide,by show ∀s∈dg.nons,s.size=1;decide⟩
 ·exact ⟨by show ∀s∈jG.prods.map Pr.name,nK s;decide,by show ∀s∈jG.nons,s.size=1;decide⟩
 ·exact ⟨by show ∀s∈gN.prods.map Pr.name,nK s;decide,by show ∀s∈gN.nons,s.size=1;decide⟩
 ·exact ⟨by show ∀s∈gO.prods.map Pr.name,nK s;decide,by show ∀s∈gO.nons,s.size=1;decide⟩
theorem xT (x:Rw):(∀p∈(dr x).prods,nK p.name)/\∀s∈(dr x).nons,s.size=1:=by
 unfold dr;split
 ·rename_i h;obtain ⟨h1,h2⟩:=xS (of_decide_eq_true h);exact ⟨λp hp=>h1 _ (WH hp),h2⟩
 ·refine ⟨λp hp=> ?_,λs hs=> ?_⟩
  ·rw [UU.1 hp];decide
  ·have:∀s∈([⟨#[83]⟩,⟨#[80]⟩,⟨#[81]⟩]:List ByteArray),s.size=1:=by decide
   exact this s (Wh hs)
theorem z6 (x:Rw):(∀p∈(dp x).prods,nK p.name)/\∀s∈(dp x).nons,s.size=1:=by
 obtain ⟨h1,h2⟩:=zY x;obtain ⟨a1,a2⟩:=xT x;refine ⟨λp hp=> ?_,by rw [h1];exact a2⟩;rcases h2 p hp with h|⟨⟨k,h⟩,_⟩
 ·exact a1 p h
 ·rw [h];exact Dh k
def bX (nn b:Nat):Sy:=if 200<b then ⟨true,((b % 9:Nat):Int)⟩ else ⟨false,((b % nn:Nat):Int)⟩
noncomputable def nL (g:Gr) (i:Nat) (y:Ln):Pr:={bH (fw i) ((y.left % g.nons.length:Nat):Int) ((y.right.take 3).map (bX g.nons.length)) with cond:=dia (iY y.cond g.conds.length)}
noncomputable def Gw (g:Gr) (i:Nat) (y:Ln):Gr:={g with prods:=g.prods++[nL g i y]}
noncomputable def eS (g:Gr):Nat->List Ln->Gr
 |_,[]=>g
 |i,y::l=>eS (Gw g i y) (i+1) l
noncomputable def ga (x:Rw) (more:List Ln):Gr:=eS (dp x) 0 (more.take 4)
theorem oG (y:Ln):∀(l:List Ln) (g:Gr) (i:Nat),eS g i (l++[y])=Gw (eS g i l) (i+l.length) y
 |[],g,i=>rfl
 |z::l,g,i=>by rw [VF];unfold eS;rw [oG y l,Vf];congr 1;omega
theorem Dk {g:Gr} (i:Nat) (y:Ln) (hc:g.conds.length<=3) (hn:g.nons.length≠0):PrI g.conds.length g.nons.length (nL g i y):=by
 have hlen:((y.right.take 3).map (bX g.nons.length)).length<=3:=by rw [U6,Vb];omega
 refine ⟨⟨_,jA (by omega),rfl⟩,⟨by show (0:Int)<=((y.left % g.nons.length:Nat):Int);omega,?_⟩,by show ((y.right.take 3).map _).length<=5;omega,λs hs=> ?_,⟨by show (-1:Int)<=0;decide,by show (0:Int)<=1;decide⟩,by show 0<=2;decide,⟨λy hy=>(by cases hy),je _ _ _,je _ _ _,λh=>(by cases h)⟩,?_,?_⟩
 ·show ((y.left % g.nons.length:Nat):Int)<_;have:=VU y.left (Ws hn);omega
 ·obtain ⟨b,hb,rfl⟩:=U8.1 (show s∈(y.right.take 3).map (bX g.nons.length) from hs);unfold bX;split
  ·exact ⟨by show (0:Int)<=((b % 9:Nat):Int);omega,λ_=>by show ((b % 9:Nat):Int)<9;omega,λh=>(by cases h)⟩
  ·refine ⟨by show (0:Int)<=((b % g.nons.length:Nat):Int);omega,λh=>(by cases h),λ_=> ?_⟩;show ((b % g.nons.length:Nat):Int)<_;have:=VU b (Ws hn);omega
 ·intro e;have h2:(2:Nat)=0:=congrArg ByteArray.size (show fw i=emp from e);cases h2
 ·show (fw i).size<=13;show 2<=13;decide
structure LG (g:Gr) (i:Nat):Prop where
 mg:MG g
 bd:Bd g (18+i) 10
 nm:∀p∈g.prods,∀k,i<=k->k<100->p.name≠fw k
theorem LG.made (x:Rw):LG (dp x) 0:=⟨(AB x).1,(AB x).2,λp hp k _ _=>Nj ((z6 x).1 p hp) k⟩
theorem LG.add {g:Gr} {i:Nat} (h:LG g i) (hi:i<50) (y:Ln):LG (Gw g i y) (i+1):=by
 refine ⟨h.mg.addP (λq hq=>h.nm q hq i (UW _) (by omega)) (λk=>zZ i k) (Dk i y h.bd.c h.bd.n0),h.bd.addP _,λp hp k hk hk2=> ?_⟩;rcases UX.1 (show p∈g.prods++[nL g i y] from hp) with hp|hp
 ·exact h.nm p hp k (by omega) hk2
 ·rw [UU.1 hp];intro e;have:=Di (by omega) hk2 (show fw i=fw k from e);omega
theorem LG.list:∀(l:List Ln) {g:Gr} {i:Nat},LG g i->i+l.length<50->LG (eS g i l) (i+l.length)
 |[],_,_,h,_=>h
 |y::l,g,i,h,hl=>by rw [Vf] at hl ⊢;have:=LG.list l (h.add (by omega) y) (by omega);rwa [show i+1+l.length=i+(l.length+1) by omega] at this
theorem Gx (x:Rw) (more:List Ln):LG (ga x more) (min 4 more.length):=by have:=LG.list (more.take 4) (LG.made x) (by rw [Vb];omega);rwa [Vb,Vd] at this
section
variable {g:Gr} {i:Nat}
theorem LG.ok (h:LG g i) (hi:i<=50):OkK g g.conds.length:=⟨h.mg.ok h.bd (by omega) (by decide),rfl,by have:=h.bd.c;omega⟩
theorem LG.ti (h:LG g i) (hi:i<=50):Ti 50 g:=by
 have hcl:=h.bd.c;have hpl:=h.bd.p;have hnl:=h.bd.n;have htl:=h.bd.t;have hll:=h.bd.l;have hfl:=h.bd.f;obtain ⟨t,ht,ht0,hf⟩:=h.mg.fam;refine ⟨hcl,λs hs=> ?_,by have:=ht.brl (by omega);rw [hf];omega,by omega,λx hx=> ?_,by omega,λs hs=>by have:=h.mg.nons.2 s hs;omega,by omega,λx hx=> ?_,by omega,λx hx=> ?_,by omega,λx hx=> ?_⟩
 ·obtain ⟨n,hn,hc⟩:=h.mg.cs;rw [hc] at hs;have:∀s∈abc,s.size<=100:=by decide
  exact this s (Wh hs)
 ·have:qh x∈dL:=by rw [<- h.mg.toks.1];exact WH hx
  have h2:∀u∈dL,u.name.size<=100/\u.lit.size<=100/\u.pat.length<=100/\u.smp.size<=100:=by decide
  obtain ⟨a1,a2,a3,a4⟩:=h2 _ this;exact ⟨a1,a2,a3,a4,by have:=(h.mg.toks.2 x hx).len (by omega);omega⟩
 ·have k:=h.mg.prods x hx;exact ⟨by have:=k.nm.2;omega,by have:=k.rl;omega,by have:=k.cond.len (by omega);omega,by have:=k.lay;omega⟩
 ·exact ⟨by have:=h.bd.lp x hx;omega,by have:=(h.mg.lvs.2 x hx).len (by omega);omega⟩
 ·exact ⟨by have:=(h.mg.fils x hx).2.2;omega,by have:=(h.mg.fils x hx).2.1.len (by omega);omega⟩
theorem LG.rl (h:LG g i):∀x∈g.prods,x.right.length<=1000000:=λx hx=>by have:=(h.mg.prods x hx).rl;omega
end
end Go.Proofs.YtcemhghkipgdiaaGreatDoor
