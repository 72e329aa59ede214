/-
  The reference's Check: it returns what Check returns.
-/
import Derived.Test.YtenpmjhnhepfdaaGreatDoorIy
import Derived.Test.YtenpmjhnhepfdaaGreatDoorHa
import Derived.Test.YtenpmjhnhepfdaaGreatDoorQm
namespace Go.Proofs.YtenpmjhnhepfdaaGreatDoor
open Go Go.Proofs.Tryz Tr
set_option maxRecDepth 10000
theorem St.pin7 {G F:PH} {a1 a2 a3 a4 a5 a6 a7:Nat} {o1 o2 o3 o4 o5 o6 o7:Obj} (h:St G F [pt a1 o1,pt a2 o2,pt a3 o3,pt a4 o4,pt a5 o5,pt a6 o6,pt a7 o7]):
  ∃G',G.le G'/\G' a1=some o1/\G' a2=some o2/\G' a3=some o3/\G' a4=some o4/\G' a5=some o5/\G' a6=some o6/\G' a7=some o7/\St G' F []:=by
 obtain ⟨G1,l1,⟨H1,p1,r1⟩,h⟩:=h.pin
 obtain ⟨G2,l2,⟨H2,p2,r2⟩,h⟩:=h.pin
 obtain ⟨G3,l3,⟨H3,p3,r3⟩,h⟩:=h.pin
 obtain ⟨G4,l4,⟨H4,p4,r4⟩,h⟩:=h.pin
 obtain ⟨G5,l5,⟨H5,p5,r5⟩,h⟩:=h.pin
 obtain ⟨G6,l6,⟨H6,p6,r6⟩,h⟩:=h.pin
 obtain ⟨G7,l7,⟨H7,p7,r7⟩,h⟩:=h.pin
 have k6:=l7
 have k5:=aa l6 k6
 have k4:=aa l5 k5
 have k3:=aa l4 k4
 have k2:=aa l3 k3
 have k1:=aa l2 k2
 exact ⟨G7,aa l1 k1,k1 _ _ (r1 _ _ p1),k2 _ _ (r2 _ _ p2),k3 _ _ (r3 _ _ p3),k4 _ _ (r4 _ _ p4),k5 _ _ (r5 _ _ p5),k6 _ _ (r6 _ _ p6),r7 _ _ p7,h⟩
theorem dY {F:PH} {v:Array Value} {g:Gr} {k:Int} (hT:Tab F) (hg:GV F v g) (hz:Sz g) (e:bT g=k):ae prog 20 #[.agg v] F fun r F'=>r=vi k/\F.le F':=e▸eZ hT hg hz
theorem Dv {G:PH} {b:Nat} {x:Tk} {p n:Sl} {e:TypeId} (q:G b=some (.cells (x.arr p n) e)) (hp:RL G p x.pat) (hn:RL G n x.cond.1):RL G (Sl.mk (some (Addr.mk b 0 none)) 1 1) [x]:=⟨[_],.cons (gU hp hn) .nil,RdS.new q (by rw [bG];rfl) rfl (Nat.le_refl _)⟩
theorem Mm {G:PH} {b:Nat} {x:Nd} {e:TypeId} (q:G b=some (.cells x.arr e)):RL G (Sl.mk (some (Addr.mk b 0 none)) 1 1) [x]:=⟨[_],.cons rfl .nil,RdS.new q (by rw [bG];rfl) rfl (Nat.le_refl _)⟩
section
variable {F G F1:PH} {b1 b2:Nat} {n:Sl} {w2:Array Value}
theorem Mn (K:SK F G b1 b2 n w2) (h:St G F1 []):iz b1 b2 true (RT F) F1:=by
 unfold iz
 refine h.firstG fun G1 F2 m1 s1 p1 l1 hm1 hs1 hp1 h=> ?_
 refine ⟨_,rfl,?_⟩
 refine h.firstG fun G2 F3 m2 s2 p2 l2 hm2 hs2 hp2 h=> ?_
 refine ⟨_,rfl,?_⟩
 refine h.first fun G3 F4 bb m3 s3 l3 hm3 hs3 h=> ?_
 refine ⟨_,rfl,?_⟩
 refine h.first fun G4 F5 br m4 s4 l4 hm4 hs4 h=> ?_
 refine ⟨_,rfl,?_⟩
 refine h.firstG fun G5 F6 m5 s5 p5 l5 hm5 hs5 hp5 h=> ?_
 refine ⟨_,rfl,?_⟩
 have l45:=aa l4 l5
 have l35:=aa l3 l45
 have l25:=aa l2 l35
 replace K:=K.le (aa l1 l25)
 replace hm1:=hm1.le l25
 replace hs1:=hs1.le l25
 replace hp1:=hp1.le l25
 replace hm2:=hm2.le l35
 replace hs2:=hs2.le l35
 replace hp2:=hp2.le l35
 replace hm3:=hm3.le l45
 replace hs3:=hs3.le l45
 replace hm4:=hm4.le l5
 replace hs4:=hs4.le l5
 clear l1 l2 l3 l4 l5 l45 l35 l25
 refine h.new fun b9 F7 h=> ?_
 refine h.new fun b10 F7 h=> ?_
 refine h.new fun b11 F7 h=> ?_
 refine h.new fun b12 F7 h=> ?_
 refine h.new fun b13 F7 h=> ?_
 refine h.put4 (w':=aU.arr Sl.nil m1 Sl.nil s1 p1 Sl.nil Sl.nil) rfl rfl (by simp [ai,Sl.v]) fun F8 h=> ?_
 refine h.put3 (w':=aU.arr Sl.nil m2 Sl.nil s2 p2 Sl.nil Sl.nil) rfl rfl (by simp [ai,Sl.v]) fun F8 h=> ?_
 refine h.put2 (w':=aU.arr Sl.nil m3 Sl.nil s3 (Sl.mk (some (Addr.mk bb 0 none)) 1 1) Sl.nil Sl.nil) rfl rfl (by simp [ai,Sl.v]) fun F8 h=> ?_
 refine h.put1 (w':=aU.arr Sl.nil m4 Sl.nil s4 (Sl.mk (some (Addr.mk br 0 none)) 1 1) Sl.nil Sl.nil) rfl rfl (by simp [ai,Sl.v]) fun F8 h=> ?_
 refine h.put0 (w':=aU.arr Sl.nil m5 Sl.nil s5 p5 Sl.nil Sl.nil) rfl rfl (by simp [ai,Sl.v]) fun F8 h=> ?_
 refine ⟨_,rfl,aj (h.le _ _ K.q1),rfl,rfl,?_⟩
 refine h.newG fun b78 G6 F9 l6 q78 _ h=> ?_
 refine h.set4 (w':=Gr.arr ww Sl.nil m1 (Sl.mk (some (Addr.mk b78 0 none)) 1 1) s1 p1 Sl.nil Sl.nil) (by show 3<9;decide) rfl fun F10 h=> ?_
 refine ⟨rfl,?_⟩
 refine h.newG fun b81 G7 F9 l7 q81 _ h=> ?_
 have l67:=aa l6 l7
 refine ⟨_,rfl,aj (h.le _ _ (l67 _ _ K.q1)),rfl,rfl,?_⟩
 refine h.newG fun b84 G8 F9 l8 q84 _ h=> ?_
 have l68:=aa l67 l8
 refine h.set3 (w':=Gr.arr iP Sl.nil m2 (Sl.mk (some (Addr.mk b84 0 none)) 1 1) s2 p2 Sl.nil Sl.nil) (by show 3<9;decide) rfl fun F10 h=> ?_
 refine ⟨_,rfl,aj (h.le _ _ (l68 _ _ K.q1)),rfl,_,rfl,aj (h.le _ _ (l68 _ _ K.q1)),rfl,rfl,rfl,?_⟩
 refine h.newG fun b90 G9 F9 l9 q90 _ h=> ?_
 have l69:=aa l68 l9
 refine h.set2 (w':=Gr.arr {aU with toks:=ub} Sl.nil m3 (Sl.mk (some (Addr.mk b90 0 none)) 2 2) s3 (Sl.mk (some (Addr.mk bb 0 none)) 1 1) Sl.nil Sl.nil) (by show 3<9;decide) rfl fun F10 h=> ?_
 refine ⟨_,h.ld2 rfl,rfl,rfl,rfl,?_⟩
 refine h.newG fun b97 G10 F9 l10 q97 _ h=> ?_
 have l610:=aa l69 l10
 refine ⟨_,rfl,by decide,by (show (0:Int)<1;decide),?_⟩
 simp only [aK]
 refine h.set6 (i:=2) (w':=Pr.arr {wx with brk:=false} (Sl.mk (some (Addr.mk b97 0 none)) 3 3) m3 Sl.nil) (by show 2<13;decide) rfl fun F11 h=> ?_
 refine ⟨_,h.ld2 rfl,_,rfl,by decide,by (show (0:Int)<1;decide),?_⟩
 simp only [aK]
 refine h.set6 (i:=5) (w':=Pr.arr wx (Sl.mk (some (Addr.mk b97 0 none)) 3 3) m3 Sl.nil) (by show 5<13;decide) rfl fun F11 h=> ?_
 refine ⟨_,h.ld2 rfl,?_⟩
 refine h.set1 (w':=Gr.arr {aU with toks:=ub} Sl.nil m4 (Sl.mk (some (Addr.mk b90 0 none)) 2 2) s4 (Sl.mk (some (Addr.mk br 0 none)) 1 1) Sl.nil Sl.nil) (by show 3<9;decide) rfl fun F12 h=> ?_
 refine ⟨_,h.ld1 rfl,_,h.ld2 rfl,_,rfl,by decide,by (show (0:Int)<1;decide),wx.arr (Sl.mk (some (Addr.mk b97 0 none)) 3 3) m3 Sl.nil,rfl,by simp only [aK];exact h.whole6,_,rfl,by decide,by (show (0:Int)<1;decide),?_⟩
 simp only [aK]
 refine h.put5 (w':=wx.arr (Sl.mk (some (Addr.mk b97 0 none)) 3 3) m3 Sl.nil) rfl rfl (by simp [ai,Sl.v]) fun F13 h=> ?_
 refine ⟨_,h.ld1 rfl,_,rfl,by decide,by (show (0:Int)<1;decide),?_⟩
 simp only [aK]
 refine h.set5 (i:=6) (w':=Pr.arr {wx with rank:=1} (Sl.mk (some (Addr.mk b97 0 none)) 3 3) m3 Sl.nil) (by show 6<13;decide) rfl fun F14 h=> ?_
 refine h.newG fun b118 G11 F9 l11 q118 _ h=> ?_
 have l611:=aa l610 l11
 refine ⟨_,rfl,aj (h.le _ _ (l611 _ _ K.q1)),rfl,?_⟩
 refine h.newG fun b121 G12 F9 l12 q121 _ h=> ?_
 have l612:=aa l611 l12
 refine ⟨_,rfl,aj (h.le _ _ (l612 _ _ K.q1)),rfl,rfl,rfl,?_⟩
 refine h.newG fun b124 G13 F9 l13 q124 _ h=> ?_
 have l613:=aa l612 l13
 refine h.set0 (w':=Gr.arr lX Sl.nil m5 Sl.nil s5 p5 (Sl.mk (some (Addr.mk b124 0 none)) 2 2) Sl.nil) (by show 7<9;decide) rfl fun F15 h=> ?_
 obtain ⟨G14,l14,e13,e12,e11,e10,e9,er,eb,h⟩:=h.pin7
 have lE:_:=aa l613 l14
 have l1314:=l14
 have l1214:=aa l13 l14
 have l1114:=aa l12 l1214
 have l1014:=aa l11 l1114
 have l914:=aa l10 l1014
 have l814:=aa l9 l914
 have l714:=aa l8 l814
 have l614:=aa l7 l714
 replace K:=K.le lE
 have tkb:RL G14 (Sl.mk (some (Addr.mk b90 0 none)) 2 2) ub:=⟨[_,_],.cons (gU (p:=Sl.nil) (n:=n) (.nil _) K.hn) (.cons (gU (p:=Sl.nil) (n:=n) (.nil _) K.hn) .nil),RdS.new (l914 _ _ q90) (by kernel_rfl) rfl (Nat.le_refl _)⟩
 have syb:RL G14 (Sl.mk (some (Addr.mk b97 0 none)) 3 3) wx.right:=⟨[_,_,_],.cons rfl (.cons rfl (.cons rfl .nil)),RdS.new (l1014 _ _ q97) (by kernel_rfl) rfl (Nat.le_refl _)⟩
 have g9:GV G14 (Gr.arr ww Sl.nil m1 (Sl.mk (some (Addr.mk b78 0 none)) 1 1) s1 p1 Sl.nil Sl.nil) ww:=⟨_,_,_,_,_,_,_,rfl,.nil _,hm1.le lE,Dv (p:=Sl.nil) (l614 _ _ q78) (.nil _) K.hn,hs1.le lE,hp1.le lE,.nil _,.nil _⟩
 have g10:GV G14 (Gr.arr iP Sl.nil m2 (Sl.mk (some (Addr.mk b84 0 none)) 1 1) s2 p2 Sl.nil Sl.nil) iP:=⟨_,_,_,_,_,_,_,rfl,.nil _,hm2.le lE,Dv (p:=Sl.mk (some (Addr.mk b81 0 none)) 1 1) (l814 _ _ q84) (Mm (x:=⟨1,97,122,0,0⟩) (l714 _ _ q81)) K.hn,hs2.le lE,hp2.le lE,.nil _,.nil _⟩
 have g11:GV G14 (Gr.arr {aU with toks:=ub} Sl.nil m3 (Sl.mk (some (Addr.mk b90 0 none)) 2 2) s3 (Sl.mk (some (Addr.mk bb 0 none)) 1 1) Sl.nil Sl.nil) pK:=⟨_,_,_,_,_,_,_,rfl,.nil _,hm3.le lE,tkb,hs3.le lE,oX eb syb (hm3.le lE) (.nil _),.nil _,.nil _⟩
 have g12:GV G14 (Gr.arr {aU with toks:=ub} Sl.nil m4 (Sl.mk (some (Addr.mk b90 0 none)) 2 2) s4 (Sl.mk (some (Addr.mk br 0 none)) 1 1) Sl.nil Sl.nil) EC:=⟨_,_,_,_,_,_,_,rfl,.nil _,hm4.le lE,tkb,hs4.le lE,oX er syb (hm3.le lE) (.nil _),.nil _,.nil _⟩
 have lvt:RL G14 (Sl.mk (some (Addr.mk b124 0 none)) 2 2) lX.lvs:=⟨[_,_],.cons (eA (n:=n) (dM (l1114 _ _ q118)) K.hn) (.cons (eA (n:=n) (dM (l1214 _ _ q121)) K.hn) .nil),RdS.new (l1314 _ _ q124) (by kernel_rfl) rfl (Nat.le_refl _)⟩
 have g13:GV G14 (Gr.arr lX Sl.nil m5 Sl.nil s5 p5 (Sl.mk (some (Addr.mk b124 0 none)) 2 2) Sl.nil) lX:=⟨_,_,_,_,_,_,_,rfl,.nil _,hm5.le lE,.nil _,hs5.le lE,hp5.le lE,lvt,.nil _⟩
 have z9:Sz ww:=eX (fun s hs=>(by cases hs)) (by decide) (fun l hl=>(by cases hl)) rfl
 have z10:Sz iP:=eX (fun s hs=>(by cases hs)) (by decide) (fun l hl=>(by cases hl)) rfl
 have z11:Sz pK:=eX (fun s hs=>(by cases hs)) (by decide) (fun l hl=>(by cases hl)) rfl
 have z12:Sz EC:=eX (fun s hs=>(by cases hs)) (by decide) (fun l hl=>(by cases hl)) rfl
 have z13:Sz lX:=eX (fun s hs=>(by cases hs)) (fun t ht=>(by cases ht)) (by decide) rfl
 refine ⟨_,rfl,aj (h.le _ _ e9),?_⟩
 refine h.runv (dY K.hT g9 z9 EH) fun Ga Fa la h=>⟨_,rfl,fun _=>⟨_,rfl,aj (h.le _ _ (la _ _ e10)),?_⟩,fun hc=>absurd rfl hc⟩
 refine h.runv (dY (K.hT.le la) (g10.le la) z10 wy) fun Gb Fb lb h=>⟨_,rfl,fun _=>⟨_,rfl,aj (h.le _ _ (lb _ _ (la _ _ e11))),?_⟩,fun hc=>absurd rfl hc⟩
 have lab:=aa la lb
 refine h.runv (dY (K.hT.le lab) (g11.le lab) z11 wz) fun Gc Fc lc h=>⟨_,rfl,fun _=>⟨_,rfl,aj (h.le _ _ (lc _ _ (lab _ _ e12))),?_⟩,fun hc=>absurd rfl hc⟩
 have lac:=aa lab lc
 refine h.runv (dY (K.hT.le lac) (g12.le lac) z12 EI) fun Gd Fd ld' h=>⟨_,rfl,fun _=>⟨_,rfl,aj (h.le _ _ (ld' _ _ (lac _ _ e13))),?_⟩,fun hc=>absurd rfl hc⟩
 have lad:=aa lac ld'
 refine h.runv (dY (K.hT.le lad) (g13.le lad) z13 CA) fun Ge Fe le' h=>⟨_,rfl,?_⟩
 dsimp only
 rw [show decide ((53:Int)=53)=true from rfl]
 exact Mq (K.le (aa lad le')) h
theorem Dw (hT:Tab F):ae prog 11 #[] F (RT F):=by
 refine Th ?_
 unfold N9
 refine (St.start F).run (lU true _) fun _ G1 F1 hr l1 h=> ?_
 obtain ⟨_,rfl,hw⟩:=hr
 obtain ⟨n,rfl,hn⟩:=hw.out
 refine ⟨_,rfl,?_⟩
 refine h.var (w:= #[n.v,vi aJ.2]) (by simp [ai,Sl.v]) (fun b1 G2 F2 l2 q1 h=> ?_) rfl rfl
 refine h.firstG fun G3 F3 m s p l3 hm hs hp h=> ?_
 refine ⟨_,rfl,?_⟩
 refine h.var (w:=aU.arr Sl.nil m Sl.nil s p Sl.nil Sl.nil) (by simp [ai,Sl.v]) (fun b2 G4 F4 l4 q2 h=> ?_) rfl rfl
 have l34:=aa l3 l4
 have l24:=aa l2 l34
 have K:SK F G4 b1 b2 n (aU.arr Sl.nil m Sl.nil s p Sl.nil Sl.nil):=⟨aa l1 l24,hT.le (aa l1 l24),l34 _ _ q1,hn.le l24,q2,⟨_,_,_,_,_,_,_,rfl,.nil _,hm.le l4,.nil _,hs.le l4,hp.le l4,.nil _,.nil _⟩⟩
 clear l1 l2 l3 l4 l34 l24 hm hs hp hn q1 q2
 refine h.firstG fun G1 F2 m1 s1 p1 l1 hm1 hs1 hp1 h=> ?_
 refine ⟨_,rfl,?_⟩
 refine h.first fun G2 F3 bl m2 s2 l2 hm2 hs2 h=> ?_
 refine ⟨_,rfl,?_⟩
 refine h.first fun G3 F4 bn m3 s3 l3 hm3 hs3 h=> ?_
 refine ⟨_,rfl,?_⟩
 refine h.firstG fun G4 F5 m4 s4 p4 l4 hm4 hs4 hp4 h=> ?_
 refine ⟨_,rfl,?_⟩
 refine h.firstG fun G5 F6 m5 s5 p5 l5 hm5 hs5 hp5 h=> ?_
 refine ⟨_,rfl,?_⟩
 have l45:=aa l4 l5
 have l35:=aa l3 l45
 have l25:=aa l2 l35
 replace K:=K.le (aa l1 l25)
 replace hm1:=hm1.le l25
 replace hs1:=hs1.le l25
 replace hp1:=hp1.le l25
 replace hm2:=hm2.le l35
 replace hs2:=hs2.le l35
 replace hm3:=hm3.le l45
 replace hs3:=hs3.le l45
 replace hm4:=hm4.le l5
 replace hs4:=hs4.le l5
 replace hp4:=hp4.le l5
 clear l1 l2 l3 l4 l5 l45 l35 l25
 refine h.new fun b3 F7 h=> ?_
 refine h.new fun b4 F7 h=> ?_
 refine h.new fun b5 F7 h=> ?_
 refine h.new fun b6 F7 h=> ?_
 refine h.new fun b7 F7 h=> ?_
 refine h.put4 (w':=aU.arr Sl.nil m1 Sl.nil s1 p1 Sl.nil Sl.nil) rfl rfl (by simp [ai,Sl.v]) fun F8 h=> ?_
 refine h.put3 (w':=aU.arr Sl.nil m2 Sl.nil s2 (Sl.mk (some (Addr.mk bl 0 none)) 1 1) Sl.nil Sl.nil) rfl rfl (by simp [ai,Sl.v]) fun F8 h=> ?_
 refine h.put2 (w':=aU.arr Sl.nil m3 Sl.nil s3 (Sl.mk (some (Addr.mk bn 0 none)) 1 1) Sl.nil Sl.nil) rfl rfl (by simp [ai,Sl.v]) fun F8 h=> ?_
 refine h.put1 (w':=aU.arr Sl.nil m4 Sl.nil s4 p4 Sl.nil Sl.nil) rfl rfl (by simp [ai,Sl.v]) fun F8 h=> ?_
 refine h.put0 (w':=aU.arr Sl.nil m5 Sl.nil s5 p5 Sl.nil Sl.nil) rfl rfl (by simp [ai,Sl.v]) fun F8 h=> ?_
 refine h.set4 (w':=Gr.arr t8 Sl.nil m1 Sl.nil s1 p1 Sl.nil Sl.nil) (by show 6<9;decide) rfl fun F9 h=> ?_
 refine ⟨_,h.ld3 rfl,_,rfl,by decide,by (show (0:Int)<1;decide),?_⟩
 simp only [aK]
 refine h.set6 (i:=1) (w':=Pr.arr (ba ⟨#[115]⟩ (-1) []) Sl.nil m2 Sl.nil) (by show 1<13;decide) rfl fun F10 h=> ?_
 refine ⟨_,h.ld2 rfl,_,rfl,by decide,by (show (0:Int)<1;decide),?_⟩
 simp only [aK]
 refine h.set5 (i:=0) (w':=Pr.arr (ba ⟨#[]⟩ 0 []) Sl.nil m3 Sl.nil) (by show 0<13;decide) rfl fun F11 h=> ?_
 refine h.newG fun b39 G6 F12 l6 q39 _ h=> ?_
 refine h.set1 (w':=Gr.arr jk (Sl.mk (some (Addr.mk b39 0 none)) 1 1) m4 Sl.nil s4 p4 Sl.nil Sl.nil) (by show 0<9;decide) rfl fun F13 h=> ?_
 refine h.run (lU false _) fun _ G7 F14 hr l7 h=> ?_
 obtain ⟨_,rfl,hw⟩:=hr
 obtain ⟨m6,rfl,hm6⟩:=hw.out
 refine ⟨_,rfl,?_⟩
 refine h.putR0 (o:=1) (w':=ua.arr Sl.nil m6 Sl.nil s5 p5 Sl.nil Sl.nil) rfl (by simp [ai,Sl.v]) (by show 1+2<=9;decide) rfl fun F15 h=> ?_
 obtain ⟨G8,l8,e7,e6,e5,e4,e3,en,el,h⟩:=h.pin7
 have l78:=aa l7 l8
 have lE:=aa l6 l78
 replace K:=K.le lE
 have g3:GV G8 (Gr.arr t8 Sl.nil m1 Sl.nil s1 p1 Sl.nil Sl.nil) t8:=⟨_,_,_,_,_,_,_,rfl,.nil _,hm1.le lE,.nil _,hs1.le lE,hp1.le lE,.nil _,.nil _⟩
 have g4:GV G8 (aU.arr Sl.nil m2 Sl.nil s2 (Sl.mk (some (Addr.mk bl 0 none)) 1 1) Sl.nil Sl.nil) JW:=⟨_,_,_,_,_,_,_,rfl,.nil _,hm2.le lE,.nil _,hs2.le lE,oX el (.nil _) (hm2.le lE) (.nil _),.nil _,.nil _⟩
 have g5:GV G8 (aU.arr Sl.nil m3 Sl.nil s3 (Sl.mk (some (Addr.mk bn 0 none)) 1 1) Sl.nil Sl.nil) JX:=⟨_,_,_,_,_,_,_,rfl,.nil _,hm3.le lE,.nil _,hs3.le lE,oX en (.nil _) (hm3.le lE) (.nil _),.nil _,.nil _⟩
 have g6:GV G8 (Gr.arr jk (Sl.mk (some (Addr.mk b39 0 none)) 1 1) m4 Sl.nil s4 p4 Sl.nil Sl.nil) jk:=⟨_,_,_,_,_,_,_,rfl,RL.strs.2 (RdS.new (l78 _ _ q39) rfl rfl (Nat.le_refl _)),hm4.le lE,.nil _,hs4.le lE,hp4.le lE,.nil _,.nil _⟩
 have g7:GV G8 (ua.arr Sl.nil m6 Sl.nil s5 p5 Sl.nil Sl.nil) ua:=⟨_,_,_,_,_,_,_,rfl,.nil _,hm6.le l8,.nil _,hs5.le lE,hp5.le lE,.nil _,.nil _⟩
 have zz:∀g:Gr,(∀s∈g.conds,s.size<=1000000000)->g.toks=[]->g.lvs=[]->g.fils=[]->Sz g:=fun g h1 h2 h3 h4=>eX h1 (fun t ht=>by rw [h2] at ht;cases ht) (fun l hl=>by rw [h3] at hl;cases hl) h4
 refine ⟨_,rfl,aj (h.le _ _ K.q2),?_⟩
 refine h.runv (dY K.hT K.g2 (zz _ (fun s hs=>(by cases hs)) rfl rfl rfl) lY) fun Ga Fa la h=>⟨_,rfl,fun _=>⟨_,rfl,aj (h.le _ _ (la _ _ e3)),?_⟩,fun hc=>absurd rfl hc⟩
 refine h.runv (dY (K.hT.le la) (g3.le la) (zz _ (fun s hs=>(by cases hs)) rfl rfl rfl) Cy) fun Gb Fb lb h=>⟨_,rfl,fun _=>⟨_,rfl,aj (h.le _ _ (lb _ _ (la _ _ e4))),?_⟩,fun hc=>absurd rfl hc⟩
 have lab:=aa la lb
 refine h.runv (dY (K.hT.le lab) (g4.le lab) (zz _ (fun s hs=>(by cases hs)) rfl rfl rfl) EF) fun Gc Fc lc h=>⟨_,rfl,fun _=>⟨_,rfl,aj (h.le _ _ (lc _ _ (lab _ _ e5))),?_⟩,fun hc=>absurd rfl hc⟩
 have lac:=aa lab lc
 refine h.runv (dY (K.hT.le lac) (g5.le lac) (zz _ (fun s hs=>(by cases hs)) rfl rfl rfl) EG) fun Gd Fd ld' h=>⟨_,rfl,fun _=>⟨_,rfl,aj (h.le _ _ (ld' _ _ (lac _ _ e6))),?_⟩,fun hc=>absurd rfl hc⟩
 have lad:=aa lac ld'
 refine h.runv (dY (K.hT.le lad) (g6.le lad) (zz _ (by decide) rfl rfl rfl) ud) fun Ge Fe le' h=>⟨_,rfl,fun _=>⟨_,rfl,aj (h.le _ _ (le' _ _ (lad _ _ e7))),?_⟩,fun hc=>absurd rfl hc⟩
 have lae:=aa lad le'
 refine h.runv (dY (K.hT.le lae) (g7.le lae) (zz _ (fun s hs=>(by cases hs)) rfl rfl rfl) Cz) fun Gf Ff lf h=>⟨_,rfl,?_⟩
 dsimp only
 rw [show decide ((54:Int)=54)=true from rfl]
 exact Mn (K.le (aa lae lf)) h
end
section
variable {g:Gr} {a b:Nat} {n:Int}
end
section
variable {F G F1:PH} {b8:Nat} {w:Array Value} {g:Gr} {want:Int}
end
section
variable {F G F1:PH} {b8:Nat} {g:Gr} {c n t s s1 l f:Sl} {vs:List (Array Value)} {by':Int} {how:Nat}
end
end Go.Proofs.YtenpmjhnhepfdaaGreatDoor
namespace Go.Proofs.YtenpmjhnhepfdaaGreatDoor
open Go Go.ChangeShapes Go.WideShapes Go.ChangeAt Go.RowKit Go.Deep Go.Proofs.Tryz
set_option maxRecDepth 100000
section
variable {H:Type} {enc:TypeId×Value->H} {P:Program} {W:World}
theorem vR {α:Type} {cells:α->List Value} {k:Nat} (hk:∀o,(cells o).length=k):∀{os:List α} {i j:Nat},j<k->(os.flatMap cells)[i*k+j]? =(os[i]?).bind fun o=>(cells o)[j]?
 |[],i,j,_=>by simp
 |o::os,0,j,hj=>by
  rw [List.flatMap_cons,Nat.zero_mul,Nat.zero_add,List.getElem?_append_left (by rw [hk];exact hj)]
  rfl
 |o::os,i+1,j,hj=>by
  rw [List.flatMap_cons,List.getElem?_append_right (by rw [hk,Nat.succ_mul];omega),hk,show (i+1)*k+j - k=i*k+j by rw [Nat.succ_mul];omega,vR hk hj]
  rfl
theorem iw {α:Type} {cells:α->List Value} {k:Nat} (hk:∀o,(cells o).length=k):∀os:List α,(os.flatMap cells).length=os.length*k
 |[]=>by simp
 |o::os=>by rw [List.flatMap_cons,List.length_append,hk,iw hk os,List.length_cons,Nat.succ_mul,Nat.add_comm]
theorem rT {α:Type} [Inhabited α] {t e k:Nat} {cells:α->List Value} {Q:α->Prop} (ht:P.underlying t=some (.slice e)) (hk:P.cellsOf e=k) (hk0:0<k) (hlen:∀o,(cells o).length=k)
  (elem:∀{fuel:Nat} {cs:List Value} {x:DataW H×List MemPlace},DataW.trod enc P W 0 (fun _=>true) true fuel e cs=some x->(x.1.weights P e).all (·<=reachBytes)=true->∃o,cs=cells o/\Q o)
  {fuel:Nat} {c:Value} {x:DataW H×List MemPlace} (h:DataW.trod enc P W 0 (fun _=>true) true fuel t [c]=some x) (hw:(x.1.weights P t).all (·<=reachBytes)=true):
  ∃(sl:Sl) (os:List α),c=Sl.v sl/\RdS (hF W) sl k (os.flatMap cells)/\(∀o∈os,Q o)/\os.length=sl.len/\sl.len*P.bytesOf e<=reachBytes:=by
 rcases open_slice ht h with ⟨hcs,rfl⟩|⟨a,len,cap,m,n,D,Pl,hcs,_,hl,hm,hmm,rfl,hx⟩
 ·cases hcs
  exact ⟨Sl.nil,[],rfl,RdS.nil _ _,by simp,rfl,by simp [Sl.nil]⟩
 ·cases hcs
  simp only [if_true] at hmm
  subst hmm
  rw [hk] at hx
  have hwD:∀i,i<len->((D i).weights P e).all (·<=reachBytes)=true:=fun i hi=>by
   rw [List.all_eq_true] at hw ⊢
   intro y hy
   refine hw y ?_
   simp only [DataW.weights,ht]
   refine List.mem_cons_of_mem _ (List.mem_append_left _ ?_)
   have gen:∀(l:List (DataW H)) (d:DataW H),d∈l->∀y∈d.weights P e,y∈DataW.weightsAll P e l:=by
    intro l
    induction l with
    |nil=>intro d hd;cases hd
    |cons a l ih=>
     intro d hd y hy
     simp only [DataW.weightsAll,List.mem_append]
     rcases List.mem_cons.1 hd with rfl|hd
     ·exact .inl hy
     ·exact .inr (ih d hd y hy)
   exact gen _ (D i) (List.mem_map.2 ⟨i,List.mem_range.2 hi,rfl⟩) y hy
  have hb:m*P.bytesOf e<=reachBytes:=by
   simp only [DataW.weights,ht,List.all_cons,Bool.and_eq_true,decide_eq_true_eq,List.length_map,List.length_range] at hw
   rw [show len+(m - len)=m by omega] at hw
   exact hw.1
  have ho:∀i,i<len->∃o:α,W.cells? 0 (a.add (i*k)) k=some (cells o)/\Q o:=fun i hi=>by
   obtain ⟨cs,h1,h2⟩:=hx i (by omega)
   obtain ⟨o,rfl,h3⟩:=elem h2 (hwD i hi)
   exact ⟨o,h1,h3⟩
  obtain ⟨O,hO⟩:=choose_lt ho
  refine ⟨⟨some a,len,m⟩,(List.range len).map O,rfl,⟨?_,hl,fun hp=> ?_⟩,?_,by simp,Nat.le_trans (Nat.mul_le_mul_right _ hl) hb⟩
  ·rw [iw hlen];simp
  ·simp only at hp
   have h0:=(World.cells?_some (hO 0 (by omega)).1).2.2 0 hk0
   obtain ⟨v0,hv0⟩:∃v,(cells (O 0))[0]? =some v:=⟨_,List.getElem?_eq_getElem (by rw [hlen];exact hk0)⟩
   have hs:=World.cell?_spot (v:=v0) (by rw [h0];exact hv0)
   obtain ⟨b,o,spot⟩:=a
   simp [Addr.add] at hs
   subst hs
   refine ⟨b,o,rfl,fun i hi=> ?_⟩
   rw [iw hlen,List.length_map,List.length_range] at hi
   have hik:i / k<len:=Nat.div_lt_of_lt_mul (by rw [Nat.mul_comm];exact hi)
   have hr:i % k<k:=Nat.mod_lt _ hk0
   have h1:=(World.cells?_some (hO (i / k) hik).1).2.2 (i % k) hr
   have h2:=vR hlen (os:=(List.range len).map O) (i:=i / k) (j:=i % k) hr
   have hdm:i / k*k+i % k=i:=by rw [Nat.mul_comm];exact Nat.div_add_mod i k
   rw [hdm] at h2
   rw [<- List.getElem?_eq_getElem,h2]
   simp only [List.getElem?_map,List.getElem?_range hik,Option.map_some,Option.bind_some]
   rw [<- h1,aK,aK,Nat.add_assoc,hdm]
   rfl
  ·intro o ho
   obtain ⟨i,hi,rfl⟩:=List.mem_map.1 ho
   exact (hO i (List.mem_range.1 hi)).2
end
section
variable {H:Type} {enc:TypeId×Value->H} {W:World}
instance:Inhabited (Ln×Sl):=⟨⟨⟨0,[],0,0⟩,Sl.nil⟩⟩
instance:Inhabited Ru:=⟨⟨0,0,0,0,0⟩⟩
theorem Dx:prog.cellsOf 22=1:=by kernel_rfl
theorem zw:prog.cellsOf 110=4:=by kernel_rfl
theorem zx:prog.cellsOf 113=5:=by kernel_rfl
theorem Hk:prog.cellsOf 26=5:=by kernel_rfl
theorem Hl:prog.cellsOf 23=1:=by kernel_rfl
theorem Hm:prog.cellsOf 24=1:=by kernel_rfl
theorem dZ {z:Int} (h:(Lit.int .u8 z).wf=true):∃n:Nat,z=n/\n<256:=by
 obtain ⟨h1,h2⟩:=NQ h
 exact ⟨z.toNat,by omega,by omega⟩
theorem oW {fuel:Nat} {c:Value} {x:DataW H×List MemPlace} (h:DataW.trod enc prog W 0 (fun _=>true) true fuel 22 [c]=some x) (hw:(x.1.weights prog 22).all (·<=reachBytes)=true):
  ∃(sl:Sl) (ns:List Nat),c=Sl.v sl/\RdS (hF W) sl 1 (ns.map vB)/\(∀n∈ns,n<256)/\ns.length<=9000000000000000:=by
 obtain ⟨sl,zs,rfl,hr,hz,hb,_⟩:=GB underlying22 underlying5 mv h hw
 have e:(zs.map Int.toNat).map vB=zs.map (Value.int .u8):=by
  rw [List.map_map]
  refine List.map_congr_left fun z hz'=> ?_
  obtain ⟨n,rfl,_⟩:=dZ (hz z hz')
  simp only [Function.comp,Int.toNat_natCast]
 refine ⟨sl,zs.map Int.toNat,rfl,by rw [e];exact hr,fun n hn=> ?_,by rw [List.length_map];exact Jb hr hb⟩
 obtain ⟨z,hz',rfl⟩:=List.mem_map.1 hn
 obtain ⟨n,rfl,hn'⟩:=dZ (hz z hz')
 rw [Int.toNat_natCast];exact hn'
theorem Cb {fuel:Nat} {cs:List Value} {x:DataW H×List MemPlace} (h:DataW.trod enc prog W 0 (fun _=>true) true fuel 110 cs=some x) (hw:(x.1.weights prog 110).all (·<=reachBytes)=true):
  ∃o:Ln×Sl,cs=[vB o.1.left,o.2.v,vB o.1.cond,vB o.1.mark]/\(RdS (hF W) o.2 1 (o.1.right.map vB)/\o.1.left<256/\o.1.cond<256/\o.1.mark<256/\∀y∈o.1.right,y<256):=by
 obtain ⟨xs,n,_,rfl,hl,hxl,hf⟩:=DataW.trod_struct underlying110 h
 rw [zw] at hl
 match cs,hl with
 |[c0,c1,c2,c3],_=>
 match xs,hxl with
 |[x0,x1,x2,x3],_=>
 have f0:=hf 0 _ rfl
 have f1:=hf 1 _ rfl
 have f2:=hf 2 _ rfl
 have f3:=hf 3 _ rfl
 simp only [mv,Dx,List.drop_zero,List.drop_succ_cons,List.take_succ_cons,List.take_zero,List.getElem?_cons_zero,List.getElem?_cons_succ] at f0 f1 f2 f3
 obtain ⟨z0,e0,_,w0⟩:=DataW.trod_int underlying5 f0
 obtain ⟨z2,e2,_,w2⟩:=DataW.trod_int underlying5 f2
 obtain ⟨z3,e3,_,w3⟩:=DataW.trod_int underlying5 f3
 cases e0;cases e2;cases e3
 have hw1:(x1.1.weights prog 22).all (·<=reachBytes)=true:=by
  rw [List.all_eq_true] at hw ⊢
  intro y hy
  refine hw y ?_
  simp only [DataW.weights,underlying110]
  exact DataW.weights_mem_each (j:=1) rfl rfl y hy
 obtain ⟨sl,ns,rfl,hr,hn,_⟩:=oW f1 hw1
 obtain ⟨n0,rfl,k0⟩:=dZ w0
 obtain ⟨n2,rfl,k2⟩:=dZ w2
 obtain ⟨n3,rfl,k3⟩:=dZ w3
 exact ⟨⟨⟨n0,ns,n2,n3⟩,sl⟩,rfl,hr,k0,k2,k3,hn⟩
theorem Cc {fuel:Nat} {cs:List Value} {x:DataW H×List MemPlace} (h:DataW.trod enc prog W 0 (fun _=>true) true fuel 113 cs=some x) (_hw:(x.1.weights prog 113).all (·<=reachBytes)=true):
  ∃o:Ru,cs=[vB o.kind,vB o.a,vB o.b,vB o.c,vB o.cond]/\(o.kind<256/\o.a<256/\o.b<256/\o.c<256/\o.cond<256):=by
 obtain ⟨xs,n,_,rfl,hl,hxl,hf⟩:=DataW.trod_struct underlying113 h
 rw [zx] at hl
 match cs,hl with
 |[c0,c1,c2,c3,c4],_=>
 match xs,hxl with
 |[x0,x1,x2,x3,x4],_=>
 have f0:=hf 0 _ rfl
 have f1:=hf 1 _ rfl
 have f2:=hf 2 _ rfl
 have f3:=hf 3 _ rfl
 have f4:=hf 4 _ rfl
 simp only [mv,List.drop_zero,List.drop_succ_cons,List.take_succ_cons,List.take_zero,List.getElem?_cons_zero,List.getElem?_cons_succ] at f0 f1 f2 f3 f4
 obtain ⟨z0,e0,_,w0⟩:=DataW.trod_int underlying5 f0
 obtain ⟨z1,e1,_,w1⟩:=DataW.trod_int underlying5 f1
 obtain ⟨z2,e2,_,w2⟩:=DataW.trod_int underlying5 f2
 obtain ⟨z3,e3,_,w3⟩:=DataW.trod_int underlying5 f3
 obtain ⟨z4,e4,_,w4⟩:=DataW.trod_int underlying5 f4
 cases e0;cases e1;cases e2;cases e3;cases e4
 obtain ⟨n0,rfl,k0⟩:=dZ w0
 obtain ⟨n1,rfl,k1⟩:=dZ w1
 obtain ⟨n2,rfl,k2⟩:=dZ w2
 obtain ⟨n3,rfl,k3⟩:=dZ w3
 obtain ⟨n4,rfl,k4⟩:=dZ w4
 exact ⟨⟨n0,n1,n2,n3,n4⟩,rfl,k0,k1,k2,k3,k4⟩
theorem tI {α β:Type} [Mem β] {F:PH} {cells:α->List Value} {f:α->β}:∀{os:List α},(∀o∈os,Mem.rep F (f o) (cells o).toArray)->bZ F (os.map f) (os.map fun o=>(cells o).toArray)
 |[],_=> .nil
 |o::os,h=> .cons (h o (by simp)) (tI fun x hx=>h x (by simp [hx]))
theorem Dy {α:Type} (cells:α->List Value) (os:List α):cat (os.map fun o=>(cells o).toArray)=os.flatMap cells:=by
 unfold cat
 rw [List.flatMap_map]
theorem Dz {fuel:Nat} {cs:Array Value} {x:DataW H×List MemPlace} (h:DataW.trod enc prog W 0 (fun _=>true) true fuel 26 cs.toList=some x) (hw:(x.1.weights prog 26).all (·<=reachBytes)=true):
  ∃r:Rw,CC (hF W) cs r:=by
 obtain ⟨xs,n,_,rfl,hl,hxl,hf⟩:=DataW.trod_struct underlying26 h
 rw [Hk] at hl
 obtain ⟨cs⟩:=cs
 match cs,hl with
 |[c0,c1,c2,c3,c4],_=>
 match xs,hxl with
 |[x0,x1,x2,x3,x4],_=>
 have f0:=hf 0 _ rfl
 have f1:=hf 1 _ rfl
 have f2:=hf 2 _ rfl
 have f3:=hf 3 _ rfl
 have f4:=hf 4 _ rfl
 simp only [mv,Dx,Hl,Hm,List.drop_zero,List.drop_succ_cons,List.take_succ_cons,List.take_zero,List.getElem?_cons_zero,List.getElem?_cons_succ] at f0 f1 f2 f3 f4
 obtain ⟨z0,e0,_,w0⟩:=DataW.trod_int underlying5 f0
 obtain ⟨z1,e1,_,w1⟩:=DataW.trod_int underlying5 f1
 cases e0;cases e1
 have hw2:(x2.1.weights prog 22).all (·<=reachBytes)=true:=by
  rw [List.all_eq_true] at hw ⊢
  intro y hy
  refine hw y ?_
  simp only [DataW.weights,underlying26]
  exact DataW.weights_mem_each (j:=2) rfl rfl y hy
 have hw3:(x3.1.weights prog 23).all (·<=reachBytes)=true:=by
  rw [List.all_eq_true] at hw ⊢
  intro y hy
  refine hw y ?_
  simp only [DataW.weights,underlying26]
  exact DataW.weights_mem_each (j:=3) rfl rfl y hy
 have hw4:(x4.1.weights prog 24).all (·<=reachBytes)=true:=by
  rw [List.all_eq_true] at hw ⊢
  intro y hy
  refine hw y ?_
  simp only [DataW.weights,underlying26]
  exact DataW.weights_mem_each (j:=4) rfl rfl y hy
 obtain ⟨sf,ns,rfl,hr2,hn2,_⟩:=oW f2 hw2
 obtain ⟨sl,ls,rfl,hr3,hq3,_,_⟩:=rT (k:=4) (cells:=fun o:Ln×Sl=>[vB o.1.left,o.2.v,vB o.1.cond,vB o.1.mark]) underlying23 zw (by decide) (fun _=>rfl) Cb f3 hw3
 obtain ⟨sr,rs,rfl,hr4,hq4,_,_⟩:=rT (k:=5) (cells:=fun o:Ru=>[vB o.kind,vB o.a,vB o.b,vB o.c,vB o.cond]) underlying24 zx (by decide) (fun _=>rfl) Cc f4 hw4
 obtain ⟨n0,rfl,k0⟩:=dZ w0
 obtain ⟨n1,rfl,k1⟩:=dZ w1
 refine ⟨⟨n0,n1,ns,ls.map Prod.fst,rs⟩,⟨sf,sl,sr,rfl,hr2,⟨_,tI (f:=Prod.fst) (cells:=fun o:Ln×Sl=>[vB o.1.left,o.2.v,vB o.1.cond,vB o.1.mark]) fun o ho=> ?_,by rw [Dy];exact hr3⟩,⟨_,?_,by rw [Dy (fun o:Ru=>[vB o.kind,vB o.a,vB o.b,vB o.c,vB o.cond])];exact hr4⟩⟩,k0,k1⟩
 ·obtain ⟨h1,h2⟩:=hq3 o ho
  exact ⟨o.2,rfl,h1,h2⟩
 ·have:=tI (F:=hF W) (f:=fun o:Ru=>o) (cells:=fun o:Ru=>[vB o.kind,vB o.a,vB o.b,vB o.c,vB o.cond]) (os:=rs) fun o ho=>⟨rfl,hq4 o ho⟩
  rw [List.map_id'] at this
  exact this
end
set_option maxRecDepth 100000
section
variable {H:Type} {enc:TypeId×Value->H} {W:World}
theorem Hn:prog.cellsOf 28=3:=by kernel_rfl
theorem Mo:prog.cellsOf 3=1:=by kernel_rfl
theorem Cd {fuel:Nat} {cs:Array Value} {x:DataW H×List MemPlace} (h:DataW.trod enc prog W 0 (fun _=>true) true fuel 28 cs.toList=some x):
  ∃(w a:Nat) (b:Int),cs= #[.int .u8 (w:Int),.int .u8 (a:Int),vi b]/\w<256/\a<256:=by
 obtain ⟨xs,n,_,rfl,hl,hxl,hf⟩:=DataW.trod_struct underlying28 h
 rw [Hn] at hl
 obtain ⟨cs⟩:=cs
 match cs,hl with
 |[c0,c1,c2],_=>
 match xs,hxl with
 |[x0,x1,x2],_=>
 have f0:=hf 0 _ rfl
 have f1:=hf 1 _ rfl
 have f2:=hf 2 _ rfl
 simp only [mv,Mo,List.drop_zero,List.drop_succ_cons,List.take_succ_cons,List.take_zero,List.getElem?_cons_zero,List.getElem?_cons_succ] at f0 f1 f2
 obtain ⟨z0,e0,_,w0⟩:=DataW.trod_int underlying5 f0
 obtain ⟨z1,e1,_,w1⟩:=DataW.trod_int underlying5 f1
 obtain ⟨z2,e2,_,w2⟩:=DataW.trod_int underlying3 f2
 cases e0;cases e1;cases e2
 obtain ⟨n0,rfl,k0⟩:=dZ w0
 obtain ⟨n1,rfl,k1⟩:=dZ w1
 exact ⟨n0,n1,z2,rfl,k0,k1⟩
end
set_option maxRecDepth 10000
theorem jP {F:PH} {a:Addr} {y:Int} {K:Int->Prop} (h:F.cell a=some (vi y)):(∃v:Int,F.cell a=some (.int .i64 v)/\K v)↔K y:=
 ⟨fun ⟨v,hv,k⟩=>by rw [h] at hv;cases hv;exact k,fun k=>⟨y,h,k⟩⟩
theorem zy {k:Int} (h:0<=k/\k<=4):lw k=ar k/\0<=ar k:=by
 unfold lw ar
 split
 ·exact ⟨rfl,by omega⟩
 ·split
  ·exact ⟨rfl,by omega⟩
  ·rw [if_pos (by omega)];exact ⟨rfl,by omega⟩
theorem vS {k:Int} (h:0<=ar k):0<=k/\k<=4:=by have:=qI h;omega
section
variable {F:PH}
theorem xG {s:Sl} {l:List Nd} (hs:RdS F s 5 (dG l)) {i:Nat} {x:Nd} (hx:l[i]? =some x) (hi9:(i:Int)<9223372036854775807):ae prog 236 #[s.v,vi i] F fun r F'=>(∃b:Bool,r=.bool b/\(b=true↔okN i x))/\F.le F':=by
 obtain ⟨a,ha,hrow⟩:=rdn hs hx
 have hlen:=hs.nlen
 have hi:=(List.getElem?_eq_some_iff.1 hx).1
 refine Qj ?_
 unfold Ko
 refine ⟨a,ha,by omega,by omega,x.arr,rfl,hrow,fun b5 hb5=> ?_⟩
 refine atI ?_
 refine stW (an _ _ _) rfl rfl (dJ x) ?_
 rw [aR]
 have l5:F.le (F.set b5 (.cells x.arr 97)):=ac _ hb5
 have q5:=an F b5 (.cells x.arr 97)
 generalize F.set b5 (.cells x.arr 97)=F1 at*
 have c0:F1.cell (Addr.mk b5 0 none)=some (vi x.k):=by rw [am q5];rfl
 have c1:F1.cell (Addr.mk b5 1 none)=some (vi x.lo):=by rw [am q5];rfl
 have c2:F1.cell (Addr.mk b5 2 none)=some (vi x.hi):=by rw [am q5];rfl
 have c3:F1.cell (Addr.mk b5 3 none)=some (vi x.a):=by rw [am q5];rfl
 have c4:F1.cell (Addr.mk b5 4 none)=some (vi x.b):=by rw [am q5];rfl
 refine ⟨x.k,c0,?_⟩
 refine (jO F1 x.k).mono ?_
 rintro _ F2 ⟨rfl,e⟩
 obtain rfl:=e.symm
 have K:∀b:Bool,(b=true↔okN i x)->(∃b':Bool,Value.bool b=.bool b'/\(b'=true↔okN i x))/\F.le F1:=fun b hb=>⟨⟨b,rfl,hb⟩,l5⟩
 refine ⟨_,_,rfl,fun hk=>K _ ?_,fun hk=> ?_⟩
 ·have hk':¬(0<=x.k/\x.k<=4):=by
   have:decide (0<=x.k/\x.k<=4)=false:=by simpa only [eJ,Bool.not_eq_true'] using hk
   exact of_decide_eq_false this
  exact ⟨fun h=>by (cases h),fun h=>absurd (vS h.1) hk'⟩
 have hk':0<=x.k/\x.k<=4:=by simpa [eJ] using hk
 obtain ⟨hn,hn0⟩:=zy hk'
 rw [hn]
 clear hk hn
 have f1:∀(P:Prop),¬P->(false=true↔P):=fun P h=>⟨fun h=>by (cases h),fun h'=>absurd h' h⟩
 have t1:∀(P:Prop),P->(true=true↔P):=fun P h=>⟨fun _=>h,fun _=>rfl⟩
 have j2:(ar x.k<1->x.a=0)->(ar x.k<2->x.b=0)->(x.k=1->0<=x.lo/\x.lo<=x.hi/\x.hi<=255)->(x.k≠1->x.lo=0/\x.hi=0)->jx i b5 (ar x.k) (fun r F'=>(∃b':Bool,r=.bool b'/\(b'=true↔okN i x))/\F.le F') F1:=fun ha hb h1 h2=>by
  have e:okN i x↔(1<=ar x.k->0<=x.a/\x.a<i)/\(2<=ar x.k->0<=x.b/\x.b<i):=⟨fun h=>⟨h.2.2.2.2.2.1,h.2.2.2.2.2.2⟩,fun h=>⟨hn0,h1,h2,ha,hb,h.1,h.2⟩⟩
  unfold jx
  simp only [jP c3,jP c4]
  refine ⟨fun h=>⟨fun h'=>K _ (t1 _ (e.2 ⟨by omega,by omega⟩)),fun h'=>absurd h' (by omega)⟩,fun h=>⟨fun h3=>⟨fun h4=>⟨fun h5=>K _ (t1 _ (e.2 ⟨fun _=>⟨h3,h4⟩,by omega⟩)),fun h5=>⟨fun h6=>K _ ?_,fun h6=>K _ (f1 _ fun ho=>h6 ((e.1 ho).2 (by omega)).1)⟩⟩,fun h4=>K _ (f1 _ fun ho=>h4 ((e.1 ho).1 (by omega)).2)⟩,fun h3=>K _ (f1 _ fun ho=>h3 ((e.1 ho).1 (by omega)).1)⟩⟩
  rw [decide_eq_true_eq,e]
  exact ⟨fun h7=>⟨fun _=>⟨h3,h4⟩,fun _=>⟨h6,h7⟩⟩,fun h7=>(h7.2 (by omega)).2⟩
 have j1:(x.k=1->0<=x.lo/\x.lo<=x.hi/\x.hi<=255)->(x.k≠1->x.lo=0/\x.hi=0)->nS i b5 (ar x.k) (fun r F'=>(∃b':Bool,r=.bool b'/\(b'=true↔okN i x))/\F.le F') F1:=fun h1 h2=>by
  unfold nS
  simp only [jP c3,jP c4]
  refine ⟨fun h=>⟨fun h3=>K _ (f1 _ fun ho=>h3 (ho.2.2.2.1 h)),fun h3=>⟨fun h4=>⟨fun h5=>K _ (f1 _ fun ho=>h5 (ho.2.2.2.2.1 h4)),fun h5=>j2 (fun _=>by omega) (fun _=>by omega) h1 h2⟩,fun h4=>absurd h4 (by omega)⟩⟩,fun h=>⟨fun h4=>⟨fun h5=>K _ (f1 _ fun ho=>h5 (ho.2.2.2.2.1 h4)),fun h5=>j2 (fun h=>by omega) (fun _=>by omega) h1 h2⟩,fun h4=>j2 (fun h=>by omega) (fun h=>by omega) h1 h2⟩⟩
 simp only [jP c0,jP c1,jP c2]
 refine ⟨fun h=>⟨fun h1=>K _ (f1 _ fun ho=>h1 (ho.2.2.1 h).1),fun h1=>⟨fun h2=>K _ (f1 _ fun ho=>h2 (ho.2.2.1 h).2),fun h2=>⟨fun h3=>absurd h3 (by omega),fun h3=>⟨fun h4=>absurd h4 (by omega),fun h4=>⟨fun h5=>absurd h5 (by omega),fun h5=>j1 (fun h6=>absurd h6 h) (fun _=>⟨by omega,by omega⟩)⟩⟩⟩⟩⟩,
  fun h=>⟨fun h1=>K _ (f1 _ fun ho=>by have:=ho.2.1 (by omega);omega),fun h1=>⟨fun h2=>K _ (f1 _ fun ho=>by have:=ho.2.1 (by omega);omega),fun h2=>⟨fun h3=>K _ (f1 _ fun ho=>by have:=ho.2.1 (by omega);omega),fun h3=>j1 (fun _=>⟨by omega,by omega,by omega⟩) (fun h6=>absurd (by omega) h6)⟩⟩⟩⟩
def mT (n:Nat) (W:List Int):List Value:=(List.range n).map fun (i:Nat)=>vi (W.count (i:Int):Nat)
theorem DA {n:Nat} {W:List Int} {i:Nat} (hi:i<n):(mT n W).toArray[i]? =some (vi (W.count (i:Int):Nat)):=by
 simp [mT,hi]
theorem DB (n:Nat) (W:List Int) (i:Nat) (hi:i<n):(mT n W).toArray.setIfInBounds i (vi ((W.count (i:Int)+1:Nat):Int))=(mT n ((i:Int)::W)).toArray:=by
 apply Array.ext'
 rw [Array.toList_setIfInBounds]
 apply List.ext_getElem?
 intro j
 rw [List.getElem?_set]
 simp only [mT,List.length_map,List.length_range,List.getElem?_map]
 by_cases h:i=j
 ·subst h
  rw [if_pos rfl,if_pos hi,List.getElem?_range hi]
  simp
 ·rw [if_neg h]
  by_cases hj:j<n
  ·rw [List.getElem?_range hj]
   simp only [Option.map_some]
   rw [List.count_cons_of_ne (by omega)]
  ·rw [List.getElem?_eq_none (by simp;omega)]
   rfl
structure Cnt (F0 F:PH) (u n:Nat) (W:List Int):Prop where
 zu:F0 u=none
 le:F0.le F
 qu:F u=some (.cells (mT n W).toArray 3)
theorem Cnt.cell {F0 F:PH} {u n:Nat} {W:List Int} (h:Cnt F0 F u n W) {k:Int} (h0:0<=k) (h1:k<n):F.cell ((Addr.mk u 0 none).add (Int.toNat k*1))=some (vi (W.count k:Nat)):=by
 obtain ⟨i,rfl⟩:=Int.eq_ofNat_of_zero_le h0
 rw [Int.toNat_natCast,Nat.mul_one,show (Addr.mk u 0 none).add i=⟨u,i,none⟩ by simp [Addr.add,Nat.zero_add];omega,am h.qu]
 exact DA (by omega)
theorem Cnt.inc {F0 F:PH} {u n:Nat} {W:List Int} (h:Cnt F0 F u n W) {k:Int} (h0:0<=k) (h1:k<n) (hW:W.length<=100000) {K:PH->Prop} (hk:∀F',Cnt F0 F' u n (k::W)->K F'):
  ∃c e,F (Addr.add (Addr.mk u 0 none) (Int.toNat k*1)).block=some (.cells c e (0,0))/\(Addr.add (Addr.mk u 0 none) (Int.toNat k*1)).spot=none/\(Addr.add (Addr.mk u 0 none) (Int.toNat k*1)).off<c.size/\
   atF (F.set (Addr.add (Addr.mk u 0 none) (Int.toNat k*1)).block (.cells (c.setIfInBounds (Addr.add (Addr.mk u 0 none) (Int.toNat k*1)).off (.int .i64 (IntKind.i64.wrap ((W.count k:Nat)+(1:Int))))) e)) K:=by
 obtain ⟨i,rfl⟩:=Int.eq_ofNat_of_zero_le h0
 have hc:W.count (i:Int)<=W.length:=List.count_le_length
 rw [fd (by omega)]
 refine oY (b:=u) (o:=i) (by rw [Int.toNat_natCast,Nat.mul_one];simp [Addr.add];omega) h.qu (by simp [mT];omega) ?_
 rw [DB n W i (by omega)]
 exact hk _ ⟨h.zu,aw h.le h.zu,an _ _ _⟩
theorem zA:∀(l:List Nd),(usL l).length<=2*l.length
 |[]=>Nat.le_refl _
 |x::l=>by
  have:=zA l
  have:(us x).length<=2:=by unfold us;split<;>(try split)<;>simp
  simp only [usL,List.length_append,List.length_cons]
  omega
def DC (l:List Nd) (j:Nat):Prop:=∀i x,i<j->l[i]? =some x->okN i x
theorem Ce {l:List Nd} {j:Nat} (h:DC l j):∀k∈usL (l.take j),0<=k/\k+1<j:=by
 induction j with
 |zero=>intro k hk;simp [usL] at hk
 |succ j ih=>
  intro k hk
  by_cases hj:j<l.length
  ·have hx:=List.getElem?_eq_getElem hj
   have ho:=h j _ (by omega) hx
   rw [List.take_add_one,hx] at hk
   simp only [Option.toList_some,ja,List.mem_append] at hk
   rcases hk with hk|hk
   ·unfold us at hk
    obtain ⟨h0,h1,h2,h3,h4,h5,h6⟩:=ho
    split at hk
    ·rename_i h2'
     have:=h5 (by omega)
     have:=h6 (by omega)
     simp at hk
     rcases hk with rfl|rfl<;>omega
    ·split at hk
     ·rename_i h1'
      have:=h5 (by omega)
      simp at hk
      subst hk
      omega
     ·simp at hk
   ·have:=ih (fun i x hi=>h i x (by omega)) k hk
    omega
  ·rw [List.take_of_length_le (by omega)] at hk
   have:=ih (fun i x hi=>h i x (by omega)) k (by rw [List.take_of_length_le (by omega)];exact hk)
   omega
theorem DD {l:List Nd} (h:DC l l.length):GoodL l↔l≠[]/\∀i:Nat,i+1<l.length->(usL l).count (i:Int)=1:=by
 have hb:=Ce h
 rw [List.take_length] at hb
 constructor
 ·rintro ⟨h1,h2,h3,h4⟩
  refine ⟨h1,fun i hi=> ?_⟩
  have:=List.nodup_iff_count.1 h3 (i:Int)
  have:=List.count_pos_iff.2 (h4 i hi)
  omega
 ·rintro ⟨h1,h2⟩
  refine ⟨h1,fun i x hx=>h i x (List.getElem?_eq_some_iff.1 hx).1 hx,List.nodup_iff_count.2 fun a=> ?_,fun i hi=>List.count_pos_iff.1 (by rw [h2 i hi];decide)⟩
  by_cases ha:a∈usL l
  ·obtain ⟨a0,a1⟩:=hb a ha
   obtain ⟨k,rfl⟩:=Int.eq_ofNat_of_zero_le a0
   rw [h2 k (by omega)]
   exact Nat.le_refl _
  ·rw [List.count_eq_zero.2 ha]
   omega
theorem Ho:tsz prog 3=some (1,8):=by kernel_rfl
theorem Hp:bk prog 3=some (.int .i64 0):=by kernel_rfl
theorem Hq:prog.underlying 70=some (.slice 3):=by kernel_rfl
theorem jG {s:Sl} {l:List Nd} (hs:RdS F s 5 (dG l)):ae prog 218 #[s.v] F fun r F'=>r=vi (fh l)/\F.le F':=by
 have hlen:=hs.nlen
 refine Qh ?_
 unfold Km
 refine ⟨fun h=>⟨?_,le_refl' F⟩,fun h=> ?_⟩
 ·have e:fh l=2:=by unfold fh;rw [if_pos (by omega)]
  rw [e]
 have hl:l.length<=512:=by omega
 refine bU Hq Ho Hp rfl (by omega) (Int.le_refl _) (by omega) (by omega) ?_
 intro u hu
 rw [zc1 _ rfl,Int.toNat_natCast,hlen]
 have em:(List.replicate l.length (Value.int .i64 0)).toArray=(mT l.length []).toArray:=by
  congr 1
  apply List.ext_getElem?
  intro j
  by_cases hj:j<l.length
  ·simp [mT,hj]
  ·rw [List.getElem?_eq_none (by simp;omega),List.getElem?_eq_none (by simp [mT];omega)]
 rw [em]
 refine ⟨_,rfl,?_⟩
 have hU:Cnt F (F.set u (.cells (mT l.length []).toArray 3)) u l.length []:=⟨hu,ac _ hu,an _ _ _⟩
 generalize F.set u (.cells (mT l.length []).toArray 3)=F1 at*
 have bad:∀{F':PH},¬GoodL l->F.le F'->vi 40=vi (fh l)/\F.le F':=fun h hl'=>⟨by rw [xr hl h],hl'⟩
 refine ⟨fun m i F'=>∃j:Nat,i=j/\j<=l.length/\m=l.length - j/\DC l j/\Cnt F F' u l.length (usL (l.take j)),l.length,⟨0,rfl,by omega,rfl,fun i x hi=>by omega,by simpa [usL] using hU⟩,?_⟩
 clear hU
 rintro _ _ F2 ⟨j,rfl,hj,rfl,hg,hW⟩
 unfold AV
 refine ⟨fun hlt=> ?_,fun hge=> ?_⟩
 ·have hjl:j<l.length:=by omega
  have hx:l[j]? =some l[j]:=List.getElem?_eq_getElem hjl
  generalize l[j]=x at hx
  refine (xG (hs.le hW.le) hx (by omega)).mono ?_
  rintro _ F3 ⟨⟨b,rfl,hb⟩,l3⟩
  have hW3:Cnt F F3 u l.length (usL (l.take j)):=⟨hW.zu,aa hW.le l3,l3 _ _ hW.qu⟩
  refine ⟨b,rfl,fun hbf=>bad (fun hG=> ?_) hW3.le,fun hbt=> ?_⟩
  ·have:=hb.2 (hG.ok j x hx)
   rw [this] at hbf
   cases hbf
  have hok:okN j x:=hb.1 (by simpa using hbt)
  have hok1:DC l (j+1):=fun i y hi hy=>by
   by_cases hij:i=j
   ·subst hij;rw [hx] at hy;cases hy;exact hok
   ·exact hg i y (by omega) hy
  obtain ⟨a,ha,hrow⟩:=rdn (hs.le hW3.le) hx
  have hk4:=vS hok.1
  obtain ⟨hn,hn0⟩:=zy hk4
  have cl:∀{F':PH},F.le F'->∀(o:Nat) (y:Value),o<5->x.arr[o]? =some y->F'.cell ((a.add (j*5)).add o)=some y:=fun hle o y ho hy=>by
   obtain ⟨a',ha',hrow'⟩:=rdn (hs.le hle) hx
   rw [ha] at ha'
   cases ha'
   have:=hrow' o (by show o<5;exact ho)
   rw [this]
   rw [<- hy]
   exact (Array.getElem?_eq_getElem (xs:=x.arr) (i:=o) _).symm
  refine ⟨a,ha,by omega,by omega,x.k,by have:=cl hW3.le 0 (vi x.k) (by omega) rfl;exact this,?_⟩
  refine (jO F3 x.k).mono ?_
  rintro _ F4 ⟨rfl,e⟩
  obtain rfl:=e.symm
  refine ⟨_,_,rfl,?_⟩
  rw [hn]
  have hlen2:(usL (l.take j)).length<=1024:=by have:=zA (l.take j);rw [List.length_take] at this;omega
  have fin:∀F',Cnt F F' u l.length (us x++usL (l.take j))->nQ (fun y2_0 F_1=>∃m',m'<l.length - j/\∃j:Nat,y2_0=j/\j<=l.length/\m'=l.length - j/\DC l j/\Cnt F F_1 u l.length (usL (l.take j))) s ⟨some ⟨u,0,none⟩,l.length,l.length⟩ j (fun r F'=>r=vi (fh l)/\F.le F') F':=fun F' hF'=>by
   unfold nQ
   refine ⟨l.length - (j+1),by omega,j+1,fd (by omega),hjl,rfl,hok1,?_⟩
   rw [List.take_add_one,hx]
   show Cnt F F' u l.length (usL (l.take j++[x]))
   rw [ja]
   exact hF'
  refine ⟨fun h1=> ?_,fun h1=> ?_⟩
  ·obtain ⟨a0,a1⟩:=hok.2.2.2.2.2.1 h1
   refine ⟨a,ha,by omega,by omega,x.a,cl hW3.le 3 (vi x.a) (by omega) rfl,_,rfl,a0,by simp only;omega,_,hW3.cell a0 (by omega),_,rfl,a0,by simp only;omega,?_⟩
   refine hW3.inc a0 (by omega) (by omega) fun F5 hW5=> ?_
   unfold nR
   refine ⟨fun h2=> ?_,fun h2=> ?_⟩
   ·obtain ⟨b0,b1⟩:=hok.2.2.2.2.2.2 h2
    refine ⟨a,ha,by omega,by omega,x.b,cl hW5.le 4 (vi x.b) (by omega) rfl,_,rfl,b0,by simp only;omega,_,hW5.cell b0 (by omega),_,rfl,b0,by simp only;omega,?_⟩
    refine hW5.inc b0 (by omega) (by simp only [List.length_cons];omega) fun F6 hW6=>fin F6 ?_
    have:us x=[x.b,x.a]:=by unfold us;rw [if_pos h2]
    rw [this]
    exact hW6
   ·refine fin F5 ?_
    have:us x=[x.a]:=by unfold us;rw [if_neg h2,if_pos h1]
    rw [this]
    exact hW5
  ·unfold nR
   refine ⟨fun h2=>absurd h2 (by omega),fun h2=>fin F3 ?_⟩
   have:us x=[]:=by unfold us;rw [if_neg h2,if_neg h1]
   rw [this]
   exact hW3
 ·obtain rfl:j=l.length:=by omega
  rw [List.take_length] at hW
  have hgc:=DD hg
  unfold AU
  have ew:IntKind.i64.wrap ((s.len:Int) - 1)=(l.length:Int) - 1:=by rw [hlen,aN (by omega) (by omega)]
  refine ⟨fun m i F'=>∃j:Nat,i=j/\j<=l.length/\m=l.length - j/\F'=F2/\∀i:Nat,i<j->(usL l).count (i:Int)=1,l.length,⟨0,rfl,by omega,rfl,rfl,fun i hi=>by omega⟩,?_⟩
  rintro _ _ F3 ⟨j,rfl,hj',rfl,e3,hall⟩
  obtain rfl:=e3.symm
  unfold AT
  rw [ew]
  refine ⟨fun hlt=> ?_,fun hge=> ?_⟩
  ·refine ⟨_,rfl,by omega,by simp only;omega,_,hW.cell (k:=(j:Int)) (by omega) (by omega),fun hm=>bad (fun hG=> ?_) hW.le,fun hm=>⟨l.length - (j+1),by omega,j+1,fd (by omega),by omega,rfl,rfl,fun i hi=> ?_⟩⟩
   ·have:=(hgc.1 hG).2 j (by omega)
    rw [this] at hm
    exact hm rfl
   ·by_cases hij:i=j
    ·subst hij
     omega
    ·exact hall i (by omega)
  ·unfold AS
   refine ⟨fun h0=>bad (fun hG=>hG.ne (List.length_eq_zero_iff.1 (by omega))) hW.le,fun h0=>⟨?_,hW.le⟩⟩
   rw [tf hl (hgc.2 ⟨fun e=>by rw [e] at hlen;simp at hlen;omega,fun i hi=>hall i (by omega)⟩)]
end
end Go.Proofs.YtenpmjhnhepfdaaGreatDoor
