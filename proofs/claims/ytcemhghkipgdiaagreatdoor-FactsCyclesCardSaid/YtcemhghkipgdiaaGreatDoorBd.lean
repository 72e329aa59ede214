/-
  Made grammars have no cycles; with a production that derives a nonterminal from itself they have this one.
-/
import Derived.Test.YtcemhghkipgdiaaGreatDoorCd
import Derived.Test.YtcemhghkipgdiaaGreatDoorAz
import Derived.Test.YtcemhghkipgdiaaGreatDoorGkoineref05
import Derived.Test.YtcemhghkipgdiaaGreatDoorQr
import Derived.Test.YtcemhghkipgdiaaGreatDoorQl
import Derived.Test.YtcemhghkipgdiaaGreatDoorEd
import Derived.Test.YtcemhghkipgdiaaGreatDoorPhm
import Derived.Test.YtcemhghkipgdiaaGreatDoorIo
import Derived.Test.YtcemhghkipgdiaaGreatDoorAb
import Derived.Test.YtcemhghkipgdiaaGreatDoorGbits
import Derived.Test.YtcemhghkipgdiaaGreatDoorEr
import Derived.Test.YtcemhghkipgdiaaGreatDoorEx
import Derived.Test.YtcemhghkipgdiaaGreatDoorHr
import Derived.Test.YtcemhghkipgdiaaGreatDoorAt
import Derived.Test.YtcemhghkipgdiaaGreatDoorAm
namespace Go.Proofs.YtcemhghkipgdiaaGreatDoor
open Go Go.Proofs.Tryz Tr
set_option maxRecDepth 10000
abbrev RT6 (F:PH):VR:=λr F'=>r=.bool true/\F.le F'
structure SnK (F G:PH) (b1 b2 b5:Nat) (c n t s:Sl):Prop where
 lF:F.le G
 hT:Tab G
 q1:∃w,G b1=some (.cells w 31)/\DV G w aL
 q2:∃w,G b2=some (.cells w 31)/\DV G w (dia (tv 0))
 q5:∃w,G b5=some (.cells w 31)/\DV G w (dia (leaf false))
 c:RL G c (cE nST).conds
 n:RL G n aL.1
 t:RL G t dx
 s:RL G s nST
section
variable {F G G' F1:PH} {b1 b2 b5 b6:Nat} {c n t s p:Sl}
theorem SnK.le (K:SnK F G b1 b2 b5 c n t s) (l:G.le G'):SnK F G' b1 b2 b5 c n t s:=
 ⟨aa K.lF l,K.hT.le l,by obtain ⟨w,a,b⟩:=K.q1;exact ⟨w,l _ _ a,b.le l⟩,by obtain ⟨w,a,b⟩:=K.q2;exact ⟨w,l _ _ a,b.le l⟩,by obtain ⟨w,a,b⟩:=K.q5;exact ⟨w,l _ _ a,b.le l⟩,K.c.le l,K.n.le l,K.t.le l,K.s.le l⟩
theorem SnK.gv (K:SnK F G b1 b2 b5 c n t s) {l:List Pr} (hp:RL G p l):GV G ((cE nST).arr c n t s p Sl.nil Sl.nil) (sgG l):=
 ⟨c,n,t,s,p,Sl.nil,Sl.nil,rfl,K.c,K.n,K.t,K.s,hp,RL.nil G,RL.nil G⟩
theorem z7 {S:Int->Tr} {t u:Tr} (h0:S 0=t) (h1:S 1=u):fe S 2=[dia t,dia u]:=by subst h0 h1;rfl
theorem eN:Sx 2 (tv 0):=Sx.tv (by decide) (by decide)
theorem DX {l:List Pr} (h:MG (sgG l)) (h0:l.length≠0) (h1:l.length<=3):Sz (sgG l):=h.sz (IY h0 h1)
theorem QD (C:Int->Tr) (h:lK 2 2 sp2 (aH (sgG sp2)) C):fe C 2=[dia (tv 0),dia (tv 0)]:=by
 refine z7 (gn (h.sx 0) eN.1 λc=> ?_) (gn (h.sx 1) eN.1 λc=> ?_)
 ·rw [ik,<- ya (n:=0) (.inl rfl)];exact h.iff 0 c (by decide)
 ·rw [ik,<- ya (n:=1) (.inr rfl)];exact h.iff 1 c (by decide)
theorem QE (C:Int->Tr) (h:lK 2 2 sp3 (aH (sgG sp3)) C):fe C 2=[dia (tv 0),dia (leaf false)]:=by refine z7 (gn (h.sx 0) eN.1 λc=> ?_) (sG (h.sx 1) λc hc=>GB ((h.iff 1 c (by decide)).1 hc));rw [ik,<- GA];exact h.iff 0 c (by decide)
theorem Gs {t u:Tr} (ht:Sx 2 t) (hu:Sx 2 u):∀d∈[dia t,dia u],Fit d.1.length:=λd hd=>by
 rcases Ri.1 hd with rfl|hd
 ·exact lA ht (by decide)
 ·rw [Rh.1 hd];exact lA hu (by decide)
theorem Oz (K:SnK F G b1 b2 b5 c n t s) (h:St G F1 [pt b6 (.cells ((cE nST).arr c n t s p Sl.nil Sl.nil) 37)]):qL b1 b2 b5 b6 true true (RT6 F) F1:=by unfold qL;obtain ⟨w1,q1,d1⟩:=K.q1;obtain ⟨w2,q2,d2⟩:=K.q2;obtain ⟨w5,q5,d5⟩:=K.q5;have r1:∀{G' F':PH} {As:List (Ψ)},G.le G'->St G' F' As->F'.row (Addr.mk b1 0 none) w1:=λl h=>ae (h.le _ _ (l _ _ q1));have r2:∀{G' F':PH} {As:List (Ψ)},G.le G'->St G' F' As->F'.row (Addr.mk b2 0 none) w2:=λl h=>ae (h.le _ _ (l _ _ q2));have e:=au G;refine ⟨w2,d2.size,r2 e h,w1,d1.size,r1 e h,w1,d1.size,r1 e h,?_⟩;refine h.runv (gO 1 _) λG2 F2 l2 h=>⟨_,rfl,r1 l2 h,r1 l2 h,r2 l2 h,?_⟩;refine h.runv (gO 0 _) λG3 F3 l3 h=> ?_;replace l3:=aa l2 l3;refine ⟨_,rfl,r1 l3 h,r1 l3 h,r2 l3 h,?_⟩;refine h.runv (gO 1 _) λG4 F4 l4 h=> ?_;replace l4:=aa l3 l4;refine ⟨_,rfl,r1 l4 h,r1 l4 h,r2 l4 h,rfl,rfl,rfl,?_⟩;refine h.newG λb166 G5 F5 l5 q166 _ h=> ?_;replace l5:=aa l4 l5;have hr1:RL G5 (Sl.mk (some (Addr.mk b166 0 none)) 3 3) ([⟨false,1⟩,⟨false,0⟩,⟨false,1⟩]:List Sy):=Ab (n:=2) q166 rfl rfl rfl rfl rfl;refine h.run (cT ⟨#[115]⟩ 0 hr1 (d2.le l5)) λ_ G6 F6 hv6 l6 h=> ?_;obtain ⟨v6,rfl,hv6⟩:=hv6;replace l6:=aa l5 l6;refine ⟨v6,rfl,r1 l6 h,r1 l6 h,?_⟩;refine h.runv (jE 0 _) λG7 F7 l7 h=> ?_;have l67:=l7;replace l7:=aa l6 l7;refine ⟨_,rfl,r1 l7 h,r1 l7 h,rfl,?_⟩;refine h.newG λb170 G8 F8 l8 q170 _ h=> ?_;have l68:=aa l67 l8;replace l8:=aa l7 l8;have hr2:RL G8 (Sl.mk (some (Addr.mk b170 0 none)) 1 1) ([⟨true,0⟩]:List Sy):=v8 q170 rfl;refine h.run (cT ⟨#[116]⟩ 0 hr2 (d1.le l8)) λ_ G9 F9 hv9 l9 h=> ?_;obtain ⟨v9,rfl,hv9⟩:=hv9;have l69:=aa l68 l9;replace l9:=aa l8 l9;refine ⟨v9,rfl,r1 l9 h,?_⟩;refine h.run (cT ⟨#[117]⟩ 1 (RL.nil G9) (d1.le l9)) λ_ G10 F10 hv10 l10 h=> ?_;obtain ⟨v10,rfl,hv10⟩:=hv10;refine ⟨v10,rfl,Mem.len hv6,Mem.len hv9,Mem.len hv10,?_⟩;refine h.newG λb174 G11 F11 l11 q174 _ h=> ?_;have l1011:=aa l10 l11;have hps:RL G11 (Sl.mk (some (Addr.mk b174 0 none)) 3 3) sp3:=Ab (n:=13) q174 rfl rfl (Mem.le (aa l69 l1011) hv6) (Mem.le l1011 hv9) (Mem.le l11 hv10);replace l11:=aa l9 l1011;refine h.set0 (w':=(cE nST).arr c n t s (Sl.mk (some (Addr.mk b174 0 none)) 3 3) Sl.nil Sl.nil) (by show 5<9;decide) rfl λF12 h=> ?_;have K11:=K.le l11;refine ⟨_,rfl,ae (h.ptAt (i:=0) rfl),?_⟩;refine h.run (jU K11.hT (K11.gv hps) (DX x8 (by decide) (by decide)) sg3.ok) λ_ G13 F13 hr l13 h=> ?_;obtain ⟨sl,ds,rfl,⟨C,hC,rfl⟩,hds⟩:=hr;rw [show fe C (sgG sp3).nons.length=[dia (tv 0),dia (leaf false)] from QE C hC] at hds;replace l13:=aa l11 l13;refine ⟨sl,_,rfl,λ_=>⟨λ_=>⟨λ_=> ?_,λhn=>absurd rfl hn⟩,λhn=>(by cases hn)⟩,λhn=>(by cases hn)⟩;refine ⟨w2,d2.size,r2 l13 h,w5,d5.size,ae (h.le _ _ (l13 _ _ q5)),d2.size,d5.size,?_⟩;refine h.newG λb193 G14 F14 l14 q193 _ h=> ?_;have hl2:RL G14 (Sl.mk (some (Addr.mk b193 0 none)) 2 2) [dia (tv 0),dia (leaf false)]:=sF (n:=2) q193 rfl rfl (show DV G14 w2 _ from d2.le (aa l13 l14)) (show DV G14 w5 _ from d5.le (aa l13 l14));refine h.run (eU (hds.le l14) hl2 (Gs eN (Sx.leaf 2 false)) (by decide)) λr G15 F15 hr l15 h=> ?_;subst hr;exact ⟨_,rfl,by rw [decide_eq_true rfl],aa K.lF (aa l13 (aa l14 (aa l15 h.le)))⟩
theorem OA (K:SnK F G b1 b2 b5 c n t s) (h:St G F1 [pt b6 (.cells ((cE nST).arr c n t s p Sl.nil Sl.nil) 37)]):jS b1 b2 b5 b6 true (RT6 F) F1:=by
 unfold jS;obtain ⟨w1,q1,d1⟩:=K.q1;obtain ⟨w2,q2,d2⟩:=K.q2;have r1:∀{G' F':PH} {As:List (Ψ)},G.le G'->St G' F' As->F'.row (Addr.mk b1 0 none) w1:=λl h=>ae (h.le _ _ (l _ _ q1));have r2:∀{G' F':PH} {As:List (Ψ)},G.le G'->St G' F' As->F'.row (Addr.mk b2 0 none) w2:=λl h=>ae (h.le _ _ (l _ _ q2));have e:=au G;refine ⟨w1,d1.size,r1 e h,w2,d2.size,r2 e h,w1,d1.size,r1 e h,?_⟩;refine h.runv (gO 1 _) λG2 F2 l2 h=>⟨_,rfl,r1 l2 h,r2 l2 h,r1 l2 h,rfl,?_⟩;refine h.newG λb131 G3 F3 l3 q131 _ h=> ?_;replace l3:=aa l2 l3;have hr1:RL G3 (Sl.mk (some (Addr.mk b131 0 none)) 1 1) ([⟨false,1⟩]:List Sy):=v8 q131 rfl;refine h.run (cT ⟨#[115]⟩ 0 hr1 (d1.le l3)) λ_ G6 F6 hv6 l6 h=> ?_;obtain ⟨v6,rfl,hv6⟩:=hv6;replace l6:=aa l3 l6;refine ⟨v6,rfl,r1 l6 h,r2 l6 h,?_⟩;refine h.runv (gO 0 _) λG7 F7 l7 h=> ?_;have l67:=l7;replace l7:=aa l6 l7;refine ⟨_,rfl,r1 l7 h,r2 l7 h,rfl,?_⟩;refine h.newG λb135 G8 F8 l8 q135 _ h=> ?_;have l68:=aa l67 l8;replace l8:=aa l7 l8;have hr2:RL G8 (Sl.mk (some (Addr.mk b135 0 none)) 1 1) ([⟨false,0⟩]:List Sy):=v8 q135 rfl;refine h.run (cT ⟨#[116]⟩ 1 hr2 (d2.le l8)) λ_ G9 F9 hv9 l9 h=> ?_;obtain ⟨v9,rfl,hv9⟩:=hv9;have l69:=aa l68 l9;replace l9:=aa l8 l9;refine ⟨v9,rfl,r1 l9 h,?_⟩;refine h.runv (jE 0 _) λG10 F10 l10 h=> ?_;have l910:=l10;replace l10:=aa l9 l10;refine ⟨_,rfl,r1 l10 h,rfl,?_⟩;refine h.newG λb139 G11 F11 l11 q139 _ h=> ?_;have l911:=aa l910 l11;replace l11:=aa l10 l11;have hr3:RL G11 (Sl.mk (some (Addr.mk b139 0 none)) 1 1) ([⟨true,0⟩]:List Sy):=v8 q139 rfl;refine h.run (cT ⟨#[117]⟩ 1 hr3 (d1.le l11)) λ_ G12 F12 hv12 l12 h=> ?_;obtain ⟨v12,rfl,hv12⟩:=hv12;have l912:=aa l911 l12;replace l12:=aa l11 l12;refine ⟨v12,rfl,Mem.len hv6,Mem.len hv9,Mem.len hv12,?_⟩;refine h.newG λb141 G13 F13 l13 q141 _ h=> ?_;have hps:RL G13 (Sl.mk (some (Addr.mk b141 0 none)) 3 3) sp2:=Ab (n:=13) q141 rfl rfl (Mem.le (aa l69 (aa l912 l13)) hv6) (Mem.le (aa l912 l13) hv9) (Mem.le l13 hv12);replace l13:=aa l12 l13;refine h.set0 (w':=(cE nST).arr c n t s (Sl.mk (some (Addr.mk b141 0 none)) 3 3) Sl.nil Sl.nil) (by show 5<9;decide) rfl λF14 h=> ?_;have K13:=K.le l13;have sz:=DX x7 (by decide) (by decide);refine ⟨_,rfl,ae (h.ptAt (i:=0) rfl),?_⟩;refine h.run (jU K13.hT (K13.gv hps) sz sg2.ok) λ_ G15 F15 hr l15 h=> ?_;obtain ⟨sl,ds,rfl,⟨C,hC,rfl⟩,hds⟩:=hr;rw [show fe C (sgG sp2).nons.length=[dia (tv 0),dia (tv 0)] from QD C hC] at hds;have l1315:=l15;replace l15:=aa l13 l15;refine ⟨sl,_,rfl,λ_=> ?_,λhn=>absurd rfl hn⟩;refine ⟨w2,d2.size,r2 l15 h,w2,d2.size,r2 l15 h,d2.size,d2.size,?_⟩;refine h.newG λb154 G16 F16 l16 q154 _ h=> ?_;have hl2:RL G16 (Sl.mk (some (Addr.mk b154 0 none)) 2 2) [dia (tv 0),dia (tv 0)]:=sF (n:=2) q154 rfl rfl (show DV G16 w2 _ from d2.le (aa l15 l16)) (show DV G16 w2 _ from d2.le (aa l15 l16));refine h.run (eU (hds.le l16) hl2 (Gs eN eN) (by decide)) λr G17 F17 hr l17 h=> ?_;subst hr;have l1317:=aa l1315 (aa l16 l17);refine ⟨_,rfl,λ_=> ?_,λhn=>(by rw [decide_eq_true rfl] at hn;cases hn)⟩;refine ⟨_,rfl,ae (h.ptAt (i:=0) rfl),?_⟩;have K17:=K13.le l1317;refine h.run (g0 K17.hT (K17.gv (hps.le l1317)) sz sg2.ok) λ_ G18 F18 hr l18 h=> ?_;have hcy:fM (sgG sp2):=⟨0,λ_=>true,by decide,(ya (c:=λ_=>true) (n:=0) (.inl rfl)).2 rfl⟩;rcases hr with ⟨_,rfl⟩|⟨hn,_⟩
 ·exact ⟨_,rfl,Oz (K17.le l18) h⟩
 ·exact absurd hcy hn
theorem Gt {F:PH} (hT:Tab F):ak prog 12 #[] F (RT6 F):=by
 refine QG ?_;unfold OC;refine (St.start F).run (eV F) λr G1 F1 hr l1 h=> ?_;obtain ⟨w1,rfl,d1⟩:=hr;refine ⟨w1,rfl,?_⟩;refine h.var d1.st (λb1 G2 F2 l2 q1 h=> ?_) rfl d1.size;replace d1:=d1.le l2;replace l2:=aa l1 l2;refine h.run (iW 0 (by decide) _) λr G3 F3 hr l3 h=> ?_;obtain ⟨w2,rfl,d2⟩:=hr;refine ⟨w2,rfl,?_⟩;refine h.var d2.st (λb2 G4 F4 l4 q2 h=> ?_) rfl d2.size;replace d2:=d2.le l4;have l24:=aa l3 l4;refine h.run (iW 1 (by decide) _) λr G5 F5 hr l5 h=> ?_;obtain ⟨w3,rfl,d3⟩:=hr;refine ⟨w3,rfl,?_⟩;refine h.var d3.st (λb3 G6 F6 l6 q3 h=> ?_) rfl d3.size;replace d3:=d3.le l6;have l46:=aa l5 l6;refine ⟨w2,d2.size,ae (h.le _ _ (l46 _ _ q2)),w3,d3.size,ae (h.le _ _ q3),?_⟩;have tv1_ok:Sx 2 (tv 1):=Sx.tv (by decide) (by decide);refine h.run (P:=λr G'=>∃u,r=.agg u/\DV G' u (dia qO)) ((jG (d2.le l46) d3 (eN.f2 tv1_ok (by decide))).mono λ_ _ ⟨w,h1,h2,h3⟩=>⟨⟨w,h1,h2⟩,h3⟩) λ_ G7 F7 hr l7 h=> ?_;obtain ⟨w4,rfl,d4⟩:=hr;refine ⟨w4,rfl,?_⟩;refine h.var d4.st (λb4 G8 F8 l8 q4 h=> ?_) rfl d4.size;replace d4:=d4.le l8;have l68:=aa l7 l8;refine h.run (P:=λr G'=>∃u,r=.agg u/\DV G' u (dia (leaf false))) ((de false).mono λ_ _ ⟨w,h1,h2,h3⟩=>⟨⟨w,h1,h2⟩,h3⟩) λ_ G9 F9 hr l9 h=> ?_;obtain ⟨w5,rfl,d5⟩:=hr;refine ⟨w5,rfl,?_⟩;refine h.var d5.st (λb5 G10 F10 l10 q5 h=> ?_) rfl d5.size;replace d5:=d5.le l10;have l810:=aa l9 l10;refine h.newG λb26 G11 F11 l11 q26 _ h=> ?_;have hns:RL G11 (Sl.mk (some (Addr.mk b26 0 none)) 2 2) nST:=RL.strs.2 (RdS.new q26 rfl rfl (Rk _));refine h.run (lP hns) λ_ G12 F12 hr l12 h=> ?_;obtain ⟨c,n,t,rfl,hc,hn,ht,hs⟩:=hr;refine ⟨_,rfl,?_⟩;refine h.new λb6 F13 h=> ?_;refine h.put0 (w':=(cE nST).arr c n t (Sl.mk (some (Addr.mk b26 0 none)) 2 2) Sl.nil Sl.nil Sl.nil) rfl rfl (by simp [al,Sl.v]) λF14 h=> ?_;have l1012:=aa l11 l12;have l812:=aa l810 l1012;have l612:=aa l68 l812;have l412:=aa l46 l612;have l212:=aa l24 l412;have l012:=aa l2 l212;have K:SnK F G12 b1 b2 b5 c n t (Sl.mk (some (Addr.mk b26 0 none)) 2 2):=⟨l012,hT.le l012,⟨w1,l212 _ _ q1,d1.le l212⟩,⟨w2,l412 _ _ q2,d2.le l412⟩,⟨w5,l1012 _ _ q5,d5.le l1012⟩,hc,hn,ht,hs⟩;generalize Sl.mk (some (Addr.mk b26 0 none)) 2 2=s at*;replace q1:=l212 _ _ q1;replace d1:=d1.le l212;replace q2:=l412 _ _ q2;replace d2:=d2.le l412;replace q3:=l612 _ _ q3;replace d3:=d3.le l612;replace q4:=l812 _ _ q4;replace d4:=d4.le l812;have r1:∀{G' F':PH} {As:List (Ψ)},G12.le G'->St G' F' As->F'.row (Addr.mk b1 0 none) w1:=λl h=>ae (h.le _ _ (l _ _ q1));have r2:∀{G' F':PH} {As:List (Ψ)},G12.le G'->St G' F' As->F'.row (Addr.mk b2 0 none) w2:=λl h=>ae (h.le _ _ (l _ _ q2));have r3:∀{G' F':PH} {As:List (Ψ)},G12.le G'->St G' F' As->F'.row (Addr.mk b3 0 none) w3:=λl h=>ae (h.le _ _ (l _ _ q3));have e:=au G12;refine ⟨w1,d1.size,r1 e h,w2,d2.size,r2 e h,w3,d3.size,r3 e h,?_⟩;refine h.runv (jE 0 _) λG13 F15 l13 h=>⟨_,rfl,r3 l13 h,r2 l13 h,r1 l13 h,?_⟩;refine h.runv (gO 1 _) λG14 F16 l14 h=> ?_;replace l14:=aa l13 l14;refine ⟨_,rfl,r3 l14 h,r2 l14 h,r1 l14 h,rfl,rfl,?_⟩;refine h.newG λb31 G15 F17 l15 q31 _ h=> ?_;replace l15:=aa l14 l15;have hr1:RL G15 (Sl.mk (some (Addr.mk b31 0 none)) 2 2) ([⟨true,0⟩,⟨false,1⟩]:List Sy):=sF (n:=2) q31 rfl rfl rfl rfl;refine h.run (cT ⟨#[115]⟩ 0 hr1 (d1.le l15)) λ_ G16 F18 hv1 l16 h=> ?_;obtain ⟨v1,rfl,hv1⟩:=hv1;replace l16:=aa l15 l16;refine ⟨v1,rfl,r3 l16 h,r2 l16 h,?_⟩;refine h.run (cT ⟨#[116]⟩ 1 (RL.nil G16) (d2.le l16)) λ_ G17 F19 hv2 l17 h=> ?_;obtain ⟨v2,rfl,hv2⟩:=hv2;have m17:=l17;replace l17:=aa l16 l17;refine ⟨v2,rfl,r3 l17 h,?_⟩;refine h.runv (jE 1 _) λG18 F20 l18 h=> ?_;have m18:=l18;replace l18:=aa l17 l18;refine ⟨_,rfl,r3 l18 h,?_⟩;refine h.runv (gO 1 _) λG19 F21 l19 h=> ?_;have m19:=aa m18 l19;replace l19:=aa l18 l19;refine ⟨_,rfl,r3 l19 h,rfl,rfl,?_⟩;refine h.newG λb38 G20 F22 l20 q38 _ h=> ?_;have m20:=aa m19 l20;replace l20:=aa l19 l20;have hr3:RL G20 (Sl.mk (some (Addr.mk b38 0 none)) 2 2) ([⟨true,1⟩,⟨false,1⟩]:List Sy):=sF (n:=2) q38 rfl rfl rfl rfl;refine h.run (cT ⟨#[117]⟩ 1 hr3 (d3.le l20)) λ_ G21 F23 hv3 l21 h=> ?_;obtain ⟨v3,rfl,hv3⟩:=hv3;have m21:=aa m20 l21;replace l21:=aa l20 l21;refine ⟨v3,rfl,Mem.len hv1,Mem.len hv2,Mem.len hv3,?_⟩;refine h.newG λb40 G22 F24 l22 q40 _ h=> ?_;have m22:=aa m21 l22;have hps:RL G22 (Sl.mk (some (Addr.mk b40 0 none)) 3 3) sp1:=Ab (n:=13) q40 rfl rfl (Mem.le (aa m17 m22) hv1) (Mem.le m22 hv2) (Mem.le l22 hv3);replace l22:=aa l21 l22;refine h.set0 (w':=(cE nST).arr c n t s (Sl.mk (some (Addr.mk b40 0 none)) 3 3) Sl.nil Sl.nil) (by show 5<9;decide) rfl λF25 h=> ?_;have K22:=K.le l22;have gv22:=K22.gv hps;have sz:=DX x6 (by decide) (by decide);have hk:=sg1.ok;have hl:∀x∈(sgG sp1).prods,x.right.length<=1000000:=by decide
 have hp:(sgG sp1).prods.length<=1000000:=by decide
 have hns2:(sgG sp1).nons.length<=1000000:=by decide
 have hts2:(sgG sp1).toks.length<=1000000:=by decide
 refine ⟨_,rfl,ae (h.ptAt (i:=0) rfl),?_⟩;refine h.run (uM K22.hT gv22 sz hk hl hp hns2) λ_ G23 F26 hr l23 h=> ?_;obtain ⟨sl1,S1,rfl,i1,h1⟩:=hr;refine ⟨sl1,_,rfl,_,rfl,ae (h.ptAt (i:=0) rfl),?_⟩;refine h.run (ra (K22.le l23).hT (gv22.le l23) sz hk hl hp hns2) λ_ G24 F27 hr l24 h=> ?_;obtain ⟨sl2,S2,rfl,i2,h2⟩:=hr;have n24:=aa l23 l24;refine ⟨sl2,_,rfl,_,rfl,ae (h.ptAt (i:=0) rfl),?_⟩;refine h.run (BE (K22.le n24).hT (gv22.le n24) sz hk hl hp hts2 hns2) λ_ G25 F28 hr l25 h=> ?_;obtain ⟨sl3,rows,rfl,⟨S3,i3,rfl⟩,h3⟩:=hr;have n25:=aa n24 l25;refine ⟨sl3,_,rfl,_,rfl,ae (h.ptAt (i:=0) rfl),?_⟩;refine h.run (yr (K22.le n25).hT (gv22.le n25) sz hk hl hp) λ_ G26 F29 hr l26 h=> ?_;obtain ⟨sl4,us,rfl,⟨U,i4,rfl⟩,h4⟩:=hr;have n26:=aa n25 l26;have o26:=aa l22 n26;refine ⟨sl4,_,rfl,λhn=>absurd rfl hn,λ_=>⟨λhn=>absurd rfl hn,λ_=>⟨λhn=>absurd rfl hn,λ_=>⟨λhn=>absurd rfl hn,λ_=> ?_⟩⟩⟩⟩;have el3:sl3.len=2:=h3.len (by decide);have el4:sl4.len=3:=h4.len (by decide);have et:t.len=11:=K.t.len (by decide);refine ⟨λhn=>absurd (by rw [el3];rfl) hn,λ_=> ?_⟩;refine ixc (h3.le l26) (by decide) (by omega) (by rw [el3];decide) λa83 c83 row hrow hrw hc83=> ?_;have hrow':(lI S3 (sgG sp1).toks.length (sgG sp1).nons.length)[1]? =some row:=hrow;obtain rfl:row=ut S3 11 1:=(RQ hrow').symm;obtain ⟨sr,rfl,hsr⟩:=hc83;have elr:sr.len=11:=by have:=hsr.len (by decide);rw [this];unfold ut;rw [Rz,Se]
 have c84:∀{G' F':PH} {As:List (Ψ)},G26.le G'->St G' F' As->F'.cell (Addr.add a83 (Int.toNat (1:Int)*1))=some (Sl.v sr):=λl h=>bh (bX (aa l h.le) hrw) rfl;have e26:=au G26;refine ⟨sr,c84 e26 h,t,ld (h.ptAt (i:=0) rfl) rfl,λhn=>absurd (by rw [elr,et]) hn,λ_=>⟨λhn=>absurd (by rw [el4];rfl) hn,λ_=> ?_⟩⟩;refine ⟨w5,d5.size,ae (h.le _ _ (o26 _ _ (l1012 _ _ q5))),w2,d2.size,r2 o26 h,d5.size,d2.size,?_⟩;refine h.newG λb99 G27 F30 l27 q99 _ h=> ?_;have o27:=aa o26 l27;have hl99:RL G27 (Sl.mk (some (Addr.mk b99 0 none)) 2 2) [dia (leaf false),dia (tv 0)]:=sF (n:=2) q99 rfl rfl (show DV G27 w5 _ from d5.le (aa l1012 o27)) (show DV G27 w2 _ from d2.le o27);have z1:fe S1 (sgG sp1).nons.length=[dia (leaf false),dia (tv 0)]:=z7 (sG (i1.sx 0) λc hc=>Gz ((i1.iff 0 c).1 hc)) (gn (i1.sx 1) eN.1 λc=>by rw [i1.iff,ik];exact ⟨qN,jm⟩);have z2:fe S2 (sgG sp1).nons.length=[dia (tv 0),dia (tv 0)]:=z7 (gn (i2.sx 0) eN.1 λc=>by rw [i2.iff,ik];exact ⟨qN,Gy⟩) (gn (i2.sx 1) eN.1 λc=>by rw [i2.iff,ik];exact ⟨qN,λh=>(jm h).up⟩);rw [z1] at h1;rw [z2] at h2;refine h.run (eU (h1.le (aa l24 (aa l25 (aa l26 l27)))) hl99 (Gs (Sx.leaf 2 false) eN) (by decide)) λr G28 F31 hr l28 h=> ?_;subst hr;have o28:=aa o27 l28;refine ⟨_,rfl,λ_=> ?_,λhn=>(by rw [decide_eq_true rfl] at hn;cases hn)⟩;refine ⟨w2,d2.size,r2 o28 h,w2,d2.size,r2 o28 h,d2.size,d2.size,?_⟩;refine h.newG λb105 G29 F32 l29 q105 _ h=> ?_;have o29:=aa o28 l29;have hl105:RL G29 (Sl.mk (some (Addr.mk b105 0 none)) 2 2) [dia (tv 0),dia (tv 0)]:=sF (n:=2) q105 rfl rfl (show DV G29 w2 _ from d2.le o29) (show DV G29 w2 _ from d2.le o29);refine h.run (eU (h2.le (aa l25 (aa l26 (aa l27 (aa l28 l29))))) hl105 (Gs eN eN) (by decide)) λr G30 F33 hr l30 h=> ?_;subst hr;have o30:=aa o29 l30;have p30:=aa l27 (aa l28 (aa l29 l30));refine ⟨_,rfl,λ_=> ?_,λhn=>(by rw [decide_eq_true rfl] at hn;cases hn)⟩;refine ixc (h3.le (aa l26 p30)) (by decide) (by omega) (by rw [el3];decide) λa110 c110 row2 hrow2 hrw2 hc110=> ?_;have hrow2':(lI S3 (sgG sp1).toks.length (sgG sp1).nons.length)[1]? =some row2:=hrow2;obtain rfl:row2=ut S3 11 1:=(RQ hrow2').symm;obtain ⟨sr2,rfl,hsr2⟩:=hc110;have c110:∀{G' F':PH} {As:List (Ψ)},G30.le G'->St G' F' As->F'.cell (Addr.add a110 (Int.toNat (1:Int)*1))=some (Sl.v sr2):=λl h=>bh (bX (aa l h.le) hrw2) rfl;have elr2:sr2.len=11:=by have:=hsr2.len (by decide);rw [this];unfold ut;rw [Rz,Se]
 refine ⟨sr2,c110 (au _) h,?_⟩;refine ixc hsr2 (by decide) (by omega) (by rw [elr2];decide) λa112 c112 dd hdd hrw112 hc112=>⟨c112,Mem.len hc112,bX h.le hrw112,w4,d4.size,ae (h.le _ _ (o30 _ _ q4)),?_⟩;have hdd':(ut S3 11 1)[1]? =some dd:=hdd;have z3:S3 ((1:Int),(1:Int))=qO:=gn (i3.sx _) oK.1 λc=>by rw [i3.iff,Ae];exact Ky
 obtain rfl:dd=dia qO:=by rw [<- z3];exact (RQ hdd').symm
 refine h.run (gQ (show DV G30 c112 _ from hc112) (d4.le o30) (lA oK (by decide))) λr G31 F34 hr l31 h=> ?_;subst hr;have o31:=aa o30 l31;refine ⟨_,rfl,c110 l31 h,λ_=> ?_,λhn=>(by rw [decide_eq_true rfl] at hn;cases hn)⟩;refine ixc (h4.le (aa p30 l31)) (by decide) (by omega) (by rw [el4];decide) λa119 c119 du hdu hrw119 hc119=>⟨c119,Mem.len hc119,bX h.le hrw119,w4,d4.size,ae (h.le _ _ (o31 _ _ q4)),?_⟩;have hdu':(KM U (sgG sp1).prods.length)[2]? =some du:=hdu;have efam:tre (sgG sp1).fam=leaf true:=fZ (t:=leaf true) trivial;have z4:U 2=qO:=gn (i4.sx _) oK.1 λc=>by rw [i4.iff 2 c (by decide),Ae,efam];exact Kz
 obtain rfl:du=dia qO:=by rw [<- z4];exact (RQ hdu').symm
 refine h.run (gQ (show DV G31 c119 _ from hc119) (d4.le o31) (lA oK (by decide))) λr G32 F35 hr l32 h=> ?_;subst hr;refine ⟨_,rfl,c110 (aa l31 l32) h,λ_=> ?_,λhn=>(by rw [decide_eq_true rfl] at hn;cases hn)⟩;refine ⟨_,rfl,ae (h.ptAt (i:=0) rfl),?_⟩;have n32:=aa n26 (aa p30 (aa l31 l32));refine h.run (g0 (K22.le n32).hT (gv22.le n32) sz hk) λ_ G33 F36 hr l33 h=> ?_;have hno:¬fM (sgG sp1):=by rintro ⟨m,c,_,tg⟩;obtain ⟨d,hd⟩:=tg.head;exact KA hd
 rcases hr with ⟨hc,_⟩|⟨_,rfl⟩
 ·exact absurd hc hno
 ·exact ⟨_,rfl,c110 (aa l31 (aa l32 l33)) h,OA ((K22.le n32).le l33) h⟩
end
section
end
section
end
section
end
section
end
section
end
abbrev PrQ:=Nat×Nat
section
end
section
end
end Go.Proofs.YtcemhghkipgdiaaGreatDoor
namespace Go.Proofs.YtcemhghkipgdiaaGreatDoor
set_option maxRecDepth 10000
structure Two where
 acc:PrQ->Nat->Prop
 lnk:PrQ->PrQ->Prop
 ini:PrQ->Prop
 fin:PrQ->Prop
namespace Two
end Two
section
end
section
end
end Go.Proofs.YtcemhghkipgdiaaGreatDoor
namespace Go.Proofs.YtcemhghkipgdiaaGreatDoor
open Go Go.Proofs.Tryz
set_option maxRecDepth 10000
section
end
section
end
section
end
section
end
end Go.Proofs.YtcemhghkipgdiaaGreatDoor
namespace Go.Proofs.YtcemhghkipgdiaaGreatDoor
open Go Go.Proofs.Tryz Tr
set_option maxRecDepth 10000
section
end
section
end
section
end
section
end
section
end
abbrev Ps (α:Type):=Δ->Option (α×Δ)
section
end
section
end
section
end
section
end
section
end
theorem MG.addP {g:Gr} (h:MG g) {p:Pr} (hn:∀q∈g.prods,q.name≠p.name) (hl:∀k,p.name≠aY k) (hp:PrI g.conds.length g.nons.length p):MG {g with prods:=g.prods++[p]}:=by
 refine ⟨h.cs,h.fam,h.nons,h.start,h.toks,⟨?_,λq hq k hk hk2=> ?_⟩,λq hq=> ?_,⟨dc (g:=g) (g':={g with prods:=g.prods++[p]}) rfl (by show _<=(g.prods++[p]).length;rw [Rj];omega) _ _ h.lvs.1,h.lvs.2⟩,λx hx=>⟨oY (h.fils x hx).1,(h.fils x hx).2⟩⟩
 ·show ((g.prods++[p]).map Pr.name).Nodup;rw [R7,RX];refine ⟨h.names.1,by simp,λx hx y hy=> ?_⟩;rw [RT,List.map_nil,Rh] at hy;obtain ⟨q,hq,rfl⟩:=Rv.1 hx;rw [hy];exact hn q hq
 ·replace hk:(g.prods++[p]).length<=k:=hk;rw [Rj,Ro] at hk;rcases Rl.1 hq with hq|hq
  ·exact h.names.2 q hq k (by omega) hk2
  ·rw [Rh.1 hq];exact hl k
 ·rcases Rl.1 hq with hq|hq
  ·exact h.prods q hq
  ·rw [Rh.1 hq];exact hp
theorem Bd.addP {g:Gr} {a b:Nat} (h:Bd g a b) (p:Pr):Bd {g with prods:=g.prods++[p]} (a+1) b:=by have hp:=h.p;exact ⟨h.c,h.n0,h.n,by show (g.prods++_).length≠0;rw [Rj,Ro];omega,by show (g.prods++[_]).length<=_;rw [Rj,Ro];omega,h.t,h.l,h.lp,h.f⟩
theorem vW (g:Gr) (y:Ru):(ruleG g y).prods=g.prods/\(ruleG g y).nons=g.nons:=by
 unfold ruleG lM jr tokG
 repeat' split
 all_goals exact ⟨rfl,rfl⟩
theorem lw:∀(l:List Ru) (g:Gr),(dM l g).prods=g.prods/\(dM l g).nons=g.nons
 |[],g=>⟨rfl,rfl⟩
 |y::l,g=>by have:=lw l (ruleG g y);have h2:=vW g y;exact ⟨this.1.trans h2.1,this.2.trans h2.2⟩
theorem xW (x:Rw) (g:Gr):(famG x g).prods=g.prods/\(famG x g).nons=g.nons:=by unfold famG;split<;>exact ⟨rfl,rfl⟩
def ly (p:Pr):Prop:=∃s∈p.right,s.t=true
def nF (p:Pr):Prop:=∀s∈p.right,s.t=false->p.left<s.i
theorem DY (p:Pr) (m:Nat):(cw p m).left=p.left/\(cw p m).right=p.right:=by
 unfold cw
 repeat' split
 all_goals exact ⟨rfl,rfl⟩
theorem xX {l:List Sy} (h:dz l≠0):∃s∈l,s.t=true:=by have:(l.filter (·.t))≠[]:=λe=>h (by unfold dz;rw [e];rfl);obtain ⟨s,hs⟩:=List.exists_mem_of_ne_nil _ this;exact ⟨s,(S9.1 hs).1,(S9.1 hs).2⟩
theorem lz {x:Rw}:∀(l:List Ln) (g:Gr),(dy x l g).nons=g.nons/\∀p∈(dy x l g).prods,p∈g.prods\/((∃k,p.name=aY k)/\(ly p\/(bE x=false/\nF p)))
 |[],g=>⟨rfl,λp hp=> .inl hp⟩
 |y::l,g=>by
  obtain ⟨e,ih⟩:=lz l (lineG g y (bE x));have e':(dy x (y::l) g)=dy x l (lineG g y (bE x)):=rfl;rw [e'];by_cases hc:dz (aN g.nons.length y)=0/\(bE x=true\/cP (y.left % g.nons.length) (aN g.nons.length y)=false)
  ·have e2:lineG g y (bE x)=g:=by unfold lineG;rw [if_pos hc]
   rw [e2] at e ih ⊢;exact ⟨e,ih⟩
  ·have e2:lineG g y (bE x)={g with prods:=g.prods++[cw (iI g y) y.mark]}:=by unfold lineG;rw [if_neg hc]
   rw [e2] at e ih ⊢;refine ⟨e,λp hp=> ?_⟩;rcases ih p hp with h|h
   ·rcases Rl.1 h with h|h
    ·exact .inl h
    ·refine .inr ?_;rw [Rh.1 h];obtain ⟨m1,m2⟩:=DY (iI g y) y.mark;refine ⟨⟨g.prods.length,by rw [oZ];rfl⟩,?_⟩;unfold ly nF;rw [m1,m2];by_cases ht:dz (aN g.nons.length y)=0
     ·refine .inr ⟨?_,λs hs hst=> ?_⟩
      ·cases hk:bE x with
       |false=>rfl
       |true=>exact absurd ⟨ht,.inl hk⟩ hc
      ·have hl:cP (y.left % g.nons.length) (aN g.nons.length y)=true:=by
        cases hl:cP (y.left % g.nons.length) (aN g.nons.length y) with
        |true=>rfl
        |false=>exact absurd ⟨ht,.inr hl⟩ hc
       unfold cP at hl;rw [R0] at hl;have:=hl s hs;rw [hst,Tj] at this;exact of_decide_eq_true this
     ·exact .inl (xX ht)
   ·exact .inr h
theorem qJ (x:Rw):(bT x).nons=(cD x).nons/\∀p∈(bT x).prods,p∈(cD x).prods\/((∃k,p.name=aY k)/\(ly p\/(bE x=false/\nF p))):=by unfold bT;obtain ⟨a1,a2⟩:=lw (x.rules.take 6) (dy x (x.lines.take (cI x)) (famG x (cD x)));obtain ⟨b1,b2⟩:=lz (x:=x) (x.lines.take (cI x)) (famG x (cD x));obtain ⟨c1,c2⟩:=xW x (cD x);rw [a1,a2,b1,c2];refine ⟨rfl,λp hp=> ?_⟩;have:=b2 p hp;rwa [c1] at this
def bJ:ByteArray:=⟨#[99,121,99,108,101]⟩
def bU:ByteArray:=⟨#[110,111,116,104,105,110,103]⟩
def nG (s:ByteArray):Prop:=(s.size≠2\/s.data[0]?≠some 113)/\s≠bJ/\s≠bU
instance (s:ByteArray):Decidable (nG s):=by unfold nG;infer_instance
theorem Bt (k:Nat):nG (aY k):=⟨.inr (by show some 112≠some 113;decide),λe=>by
 have:=congrArg ByteArray.size e;exact absurd this (by show (2:Nat)≠5;decide),λe=>by
 have:=congrArg ByteArray.size e
 exact absurd this (by show (2:Nat)≠7;decide)⟩
theorem vX {k:Nat} (hk:k<6):(∀s∈(bY k).prods.map Pr.name,nG s)/\∀s∈(bY k).nons,s.size=1:=by
 have h:k=0\/k=1\/k=2\/k=3\/k=4\/k=5:=by omega
 rcases h with rfl|rfl|rfl|rfl|rfl|rfl
 ·exact ⟨by show ∀s∈bF.prods.map Pr.name,nG s;decide,by show ∀s∈bF.nons,s.size=1;decide⟩
 ·exact ⟨by show ∀s∈bz.prods.map Pr.name,nG s;decide,by show ∀s∈bz.nons,s.size=1;decide⟩
 ·exact ⟨by show ∀s∈bP.prods.map Pr.name,nG s;decide,by show ∀s∈bP.nons,s.size=1;decide⟩
 ·exact ⟨by show ∀s∈ft.prods.map Pr.name,nG s;decide,by show ∀s∈ft.nons,s.size=1;decide⟩
 ·exact ⟨by show ∀s∈dZ.prods.map Pr.name,nG s;decide,by show ∀s∈dZ.nons,s.size=1;decide⟩
 ·exact ⟨by show ∀s∈d6.prods.map Pr.name,nG s;decide,by show ∀s∈d6.nons,s.size=1;decide⟩
theorem vY (x:Rw):(∀p∈(cD x).prods,nG p.name)/\∀s∈(cD x).nons,s.size=1:=by
 unfold cD;split
 ·rename_i h;obtain ⟨h1,h2⟩:=vX (of_decide_eq_true h);exact ⟨λp hp=>h1 _ (Tq hp),h2⟩
 ·refine ⟨λp hp=> ?_,λs hs=> ?_⟩
  ·rw [Rh.1 hp];decide
  ·have:∀s∈([⟨#[83]⟩,⟨#[80]⟩,⟨#[81]⟩]:List ByteArray),s.size=1:=by decide
   exact this s (SW hs)
theorem qK (x:Rw):(∀p∈(bT x).prods,nG p.name)/\∀s∈(bT x).nons,s.size=1:=by
 obtain ⟨h1,h2⟩:=qJ x;obtain ⟨a1,a2⟩:=vY x;refine ⟨λp hp=> ?_,by rw [h1];exact a2⟩;rcases h2 p hp with h|⟨⟨k,h⟩,_⟩
 ·exact a1 p h
 ·rw [h];exact Bt k
section
end
theorem IX:∃b z,SlT 33 55 13 b z:=⟨_,_,underlying33,Mf,Mj,rfl,by decide,by decide⟩
theorem xY {G:PH} (l:List Sy):cX G l (l.map Sy.arr):=by
 induction l with
 |nil=>exact .nil
 |cons x l ih=>exact .cons rfl ih
section
end
section
variable {F:PH} {g:Gr} {k:Nat}
theorem DZ {S:Int->Tr} {n:Nat} {i:Int} (h0:0<=i) (h1:i<n):(fe S n)[i.toNat]? =some (dia (S i)):=by unfold fe;rw [RC,Sr (by omega),Sf,Int.toNat_of_nonneg h0]
theorem D0 (S:Int->Tr) (n:Nat):(fe S n).length=n:=by unfold fe;rw [Rz,Se]
end
abbrev r01:List Sy:=[⟨false,0⟩,⟨false,1⟩]
instance (p:Pr):Decidable (ly p):=by unfold ly;infer_instance
instance (p:Pr):Decidable (nF p):=by unfold nF;infer_instance
structure AC (l:List Pr):Prop where
 each:∀p∈l,ly p\/nF p\/(p.left=0/\p.right=r01)
 one:(∃p∈l,¬ly p/\¬nF p)->∀p∈l,p.left=1->ly p
theorem D1 {k:Nat} (hk:k<6):AC (bY k).prods:=by
 have h:k=0\/k=1\/k=2\/k=3\/k=4\/k=5:=by omega
 rcases h with rfl|rfl|rfl|rfl|rfl|rfl
 ·exact ⟨by show ∀p∈bF.prods,_;decide,by show (∃p∈bF.prods,_)->∀p∈bF.prods,_;decide⟩
 ·exact ⟨by show ∀p∈bz.prods,_;decide,by show (∃p∈bz.prods,_)->∀p∈bz.prods,_;decide⟩
 ·exact ⟨by show ∀p∈bP.prods,_;decide,by show (∃p∈bP.prods,_)->∀p∈bP.prods,_;decide⟩
 ·exact ⟨by show ∀p∈ft.prods,_;decide,by show (∃p∈ft.prods,_)->∀p∈ft.prods,_;decide⟩
 ·exact ⟨by show ∀p∈dZ.prods,_;decide,by show (∃p∈dZ.prods,_)->∀p∈dZ.prods,_;decide⟩
 ·exact ⟨by show ∀p∈d6.prods,_;decide,by show (∃p∈d6.prods,_)->∀p∈d6.prods,_;decide⟩
theorem uq (x:Rw):AC (bT x).prods:=by
 obtain ⟨_,h⟩:=qJ x;cases hk:bE x with
 |true=>
  have e:cD x=bY (x.base % 8):=by unfold cD;rw [if_pos hk]
  rw [e] at h;have ac:=D1 (of_decide_eq_true (show decide (x.base % 8<6)=true from hk));refine ⟨λp hp=> ?_,λ⟨p,hp,h1,h2⟩ q hq hl=> ?_⟩
  ·rcases h p hp with h|⟨_,h|⟨h,_⟩⟩
   ·exact ac.each p h
   ·exact .inl h
   ·rw [hk] at h;cases h
  ·rcases h p hp with h'|⟨_,h'|⟨h',_⟩⟩
   ·rcases h q hq with h3|⟨_,h3|⟨h3,_⟩⟩
    ·exact ac.one ⟨p,h',h1,h2⟩ q h3 hl
    ·exact h3
    ·rw [hk] at h3;cases h3
   ·exact absurd h' h1
   ·rw [hk] at h';cases h'
 |false=>
  have e:∀p∈(cD x).prods,ly p:=by unfold cD;rw [if_neg (by rw [hk];decide)];intro p hp;rw [Rh.1 hp];decide
  have k:∀p∈(bT x).prods,ly p\/nF p:=λp hp=>by
   rcases h p hp with h|⟨_,h|⟨_,h⟩⟩
   ·exact .inl (e p h)
   ·exact .inl h
   ·exact .inr h
  exact ⟨λp hp=>(k p hp).imp id .inl,λ⟨p,hp,h1,h2⟩=>by
   rcases k p hp with h|h
   ·exact absurd h h1
   ·exact absurd h h2⟩
section
variable {l l':List Pr} {P:Nat->Tr} {c:Cf} {k:Int} {E:Pr->Prop}
def exN (l:List Pr) (x:Pr):Prop:=x.right=[]/\((∃p∈l,¬ly p/\¬nF p)->x.left≠1)
def exK (k:Int) (x:Pr):Prop:=x.left=k/\(⟨false,k⟩:Sy)∈x.right/\∀s∈x.right,s.i=k\/k<s.i
theorem Ku (h:∀x∈l',x∈l\/exN l x\/(E x/\exK k x)) (ac:AC l) (hb:∃p∈l,¬ly p/\¬nF p) {n:Int} (d:Der l' P true c n):n≠1:=by
 induction d with
 |mk i x hi hp ht hd ih=>
  rcases h x (Rm hi) with h|h|⟨_,h⟩
  ·intro e;obtain ⟨s,hs,hst⟩:=ac.one hb x h e;exact absurd (ht s hs hst) (by decide)
  ·exact h.2 hb
  ·rw [h.1];exact ih _ h.2.1 rfl
theorem D2 (h:∀x∈l',x∈l\/exN l x\/(E x/\exK k x)) (ac:AC l) {a b:Int} (hs:Stp l' P c a b):a<b\/(a=k/\b=k/\∃i x,l'[i]? =some x/\E x/\(P i).ev c=true):=by
 obtain ⟨i,j,x,s,hi,hj,hst,rfl,rfl,hp,ho⟩:=hs;have hsm:=Rm hj;rcases h x (Rm hi) with hx|hx|⟨hE,hx⟩
 ·by_cases ht:ly x
  ·obtain ⟨y,hy,hyt⟩:=ht;obtain ⟨m,hm⟩:=Th hy;by_cases e:m=j
   ·subst e;rw [hj] at hm;cases hm;rw [hst] at hyt;cases hyt
   ·have:=(ho m y e hm).1;rw [hyt] at this;cases this
  ·by_cases hl:nF x
   ·exact .inl (hl s hsm hst)
   ·rcases ac.each x hx with h'|h'|⟨h1,h2⟩
    ·exact absurd h' ht
    ·exact absurd h' hl
    ·have hb:∃p∈l,¬ly p/\¬nF p:=⟨x,hx,ht,hl⟩;rw [h2] at hj ho
     match j,hj with
     |0,hj=>exact absurd rfl (Ku h ac hb (ho 1 ⟨false,1⟩ (by decide) rfl).2)
     |1,hj=>cases hj;exact .inl (by rw [h1];decide)
     |j+2,hj=>simp at hj
 ·rw [hx.1] at hj;simp at hj
 ·rcases hx.2.2 s hsm with e|e
  ·exact .inr ⟨hx.1,e,i,x,hi,hE,hp⟩
  ·exact .inl (by rw [hx.1];exact e)
theorem z8 (h:∀x∈l',x∈l\/exN l x\/(E x/\exK k x)) (ac:AC l) {a b:Int} (t:Tg (Stp l' P c) a b):a<b\/∃i x,l'[i]? =some x/\E x/\(P i).ev c=true:=by
 induction t with
 |one h1=>exact (D2 h ac h1).imp id λh=>h.2.2
 |snoc _ h1 ih=>
  rcases ih with ih|ih
  ·rcases D2 h ac h1 with h2|h2
   ·exact .inl (by omega)
   ·exact .inr h2.2.2
  ·exact .inr ih
theorem Gu (ac:AC l) {n:Int}:¬Tg (Stp l P c) n n:=λt=>by
 rcases z8 (l':=l) (k:=0) (E:=λ_=>False) (λx hx=> .inl hx) ac t with h|⟨_,_,_,h,_⟩
 ·omega
 ·exact h
theorem D3 (h:∀x∈l',x∈l\/exN l x\/(E x/\exK k x)) (ac:AC l) {i:Nat} {x:Pr} (hi:l'[i]? =some x) (hl:x.left=k) (he:∀i' y,l'[i']? =some y->E y->i'=i)
  {j:Nat} (hj:x.right[j]? =some ⟨false,k⟩) (ho:(P i).ev c=true->∀m y,m≠j->x.right[m]? =some y->y.t=false/\Der l' P true c y.i):Tg (Stp l' P c) k k↔(P i).ev c=true:=by
 constructor
 ·intro t;rcases z8 h ac t with h|⟨i',y,h1,h2,h3⟩
  ·omega
  ·rw [<- he i' y h1 h2];exact h3
 ·intro hp;exact .one ⟨i,j,x,⟨false,k⟩,hi,hj,rfl,hl,rfl,hp,ho hp⟩
end
end Go.Proofs.YtcemhghkipgdiaaGreatDoor
