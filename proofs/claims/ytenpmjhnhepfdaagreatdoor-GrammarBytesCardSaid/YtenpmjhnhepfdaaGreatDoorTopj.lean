/-
  Arguments of the laws of grammars, opened: descriptions of grammars.
-/
import Derived.Test.YtenpmjhnhepfdaaGreatDoorIy
import Derived.Test.YtenpmjhnhepfdaaGreatDoorGkoineref04
namespace Go.Proofs.YtenpmjhnhepfdaaGreatDoor
open Go Go.Proofs.Tryz Tr
set_option maxRecDepth 10000
theorem St.pin7 {G F:PH} {a1 a2 a3 a4 a5 a6 a7:Nat} {o1 o2 o3 o4 o5 o6 o7:Obj} (h:St G F [pt a1 o1,pt a2 o2,pt a3 o3,pt a4 o4,pt a5 o5,pt a6 o6,pt a7 o7]):
  ∃G',G.le G'∧G' a1=some o1∧G' a2=some o2∧G' a3=some o3∧G' a4=some o4∧G' a5=some o5∧G' a6=some o6∧G' a7=some o7∧St G' F []:=by
 obtain ⟨G1,l1,⟨H1,p1,r1⟩,h⟩:=h.pin
 obtain ⟨G2,l2,⟨H2,p2,r2⟩,h⟩:=h.pin
 obtain ⟨G3,l3,⟨H3,p3,r3⟩,h⟩:=h.pin
 obtain ⟨G4,l4,⟨H4,p4,r4⟩,h⟩:=h.pin
 obtain ⟨G5,l5,⟨H5,p5,r5⟩,h⟩:=h.pin
 obtain ⟨G6,l6,⟨H6,p6,r6⟩,h⟩:=h.pin
 obtain ⟨G7,l7,⟨H7,p7,r7⟩,h⟩:=h.pin
 have k6:=l7
 have k5:=aa l6 k6
 have k4:=aa l5 k5
 have k3:=aa l4 k4
 have k2:=aa l3 k3
 have k1:=aa l2 k2
 exact ⟨G7,aa l1 k1,k1 _ _ (r1 _ _ p1),k2 _ _ (r2 _ _ p2),k3 _ _ (r3 _ _ p3),k4 _ _ (r4 _ _ p4),k5 _ _ (r5 _ _ p5),k6 _ _ (r6 _ _ p6),r7 _ _ p7,h⟩
theorem dg {F:PH} {v:Array Value} {g:Gr} {k:Int} (hT:Tab F) (hg:GV F v g) (hz:Sz g) (e:cf g=k):ac prog 20 #[.agg v] F fun r F'=>r=vi k∧F.le F':=e▸fa hT hg hz
theorem Aw {G:PH} {b:Nat} {x:Tk} {p n:Sl} {e:TypeId} (q:G b=some (.cells (x.arr p n) e)) (hp:RL G p x.pat) (hn:RL G n x.cond.1):RL G (Sl.mk (some (Addr.mk b 0 none)) 1 1) [x]:=⟨[_],.cons (gh hp hn) .nil,RdS.new q (by rw [dU];rfl) rfl (Nat.le_refl _)⟩
theorem Ie {G:PH} {b:Nat} {x:Nd} {e:TypeId} (q:G b=some (.cells x.arr e)):RL G (Sl.mk (some (Addr.mk b 0 none)) 1 1) [x]:=⟨[_],.cons rfl .nil,RdS.new q (by rw [dU];rfl) rfl (Nat.le_refl _)⟩
section
variable {F G F1:PH} {b1 b2:Nat} {n:Sl} {w2:Array Value}
theorem If (K:SK F G b1 b2 n w2) (h:St G F1 []):gO b1 b2 true (RT F) F1:=by
 unfold gO
 refine h.firstG fun G1 F2 m1 s1 p1 l1 hm1 hs1 hp1 h=> ?_
 refine ⟨_,rfl,?_⟩
 refine h.firstG fun G2 F3 m2 s2 p2 l2 hm2 hs2 hp2 h=> ?_
 refine ⟨_,rfl,?_⟩
 refine h.first fun G3 F4 bb m3 s3 l3 hm3 hs3 h=> ?_
 refine ⟨_,rfl,?_⟩
 refine h.first fun G4 F5 br m4 s4 l4 hm4 hs4 h=> ?_
 refine ⟨_,rfl,?_⟩
 refine h.firstG fun G5 F6 m5 s5 p5 l5 hm5 hs5 hp5 h=> ?_
 refine ⟨_,rfl,?_⟩
 have l45:=aa l4 l5
 have l35:=aa l3 l45
 have l25:=aa l2 l35
 replace K:=K.le (aa l1 l25)
 replace hm1:=hm1.le l25
 replace hs1:=hs1.le l25
 replace hp1:=hp1.le l25
 replace hm2:=hm2.le l35
 replace hs2:=hs2.le l35
 replace hp2:=hp2.le l35
 replace hm3:=hm3.le l45
 replace hs3:=hs3.le l45
 replace hm4:=hm4.le l5
 replace hs4:=hs4.le l5
 clear l1 l2 l3 l4 l5 l45 l35 l25
 refine h.new fun b9 F7 h=> ?_
 refine h.new fun b10 F7 h=> ?_
 refine h.new fun b11 F7 h=> ?_
 refine h.new fun b12 F7 h=> ?_
 refine h.new fun b13 F7 h=> ?_
 refine h.put4 (w':=aS.arr Sl.nil m1 Sl.nil s1 p1 Sl.nil Sl.nil) rfl rfl (by simp [aj,Sl.v]) fun F8 h=> ?_
 refine h.put3 (w':=aS.arr Sl.nil m2 Sl.nil s2 p2 Sl.nil Sl.nil) rfl rfl (by simp [aj,Sl.v]) fun F8 h=> ?_
 refine h.put2 (w':=aS.arr Sl.nil m3 Sl.nil s3 (Sl.mk (some (Addr.mk bb 0 none)) 1 1) Sl.nil Sl.nil) rfl rfl (by simp [aj,Sl.v]) fun F8 h=> ?_
 refine h.put1 (w':=aS.arr Sl.nil m4 Sl.nil s4 (Sl.mk (some (Addr.mk br 0 none)) 1 1) Sl.nil Sl.nil) rfl rfl (by simp [aj,Sl.v]) fun F8 h=> ?_
 refine h.put0 (w':=aS.arr Sl.nil m5 Sl.nil s5 p5 Sl.nil Sl.nil) rfl rfl (by simp [aj,Sl.v]) fun F8 h=> ?_
 refine ⟨_,rfl,ak (h.le _ _ K.q1),rfl,rfl,?_⟩
 refine h.newG fun b78 G6 F9 l6 q78 _ h=> ?_
 refine h.set4 (w':=Gr.arr tK Sl.nil m1 (Sl.mk (some (Addr.mk b78 0 none)) 1 1) s1 p1 Sl.nil Sl.nil) (by show 3<9;decide) rfl fun F10 h=> ?_
 refine ⟨rfl,?_⟩
 refine h.newG fun b81 G7 F9 l7 q81 _ h=> ?_
 have l67:=aa l6 l7
 refine ⟨_,rfl,ak (h.le _ _ (l67 _ _ K.q1)),rfl,rfl,?_⟩
 refine h.newG fun b84 G8 F9 l8 q84 _ h=> ?_
 have l68:=aa l67 l8
 refine h.set3 (w':=Gr.arr gN Sl.nil m2 (Sl.mk (some (Addr.mk b84 0 none)) 1 1) s2 p2 Sl.nil Sl.nil) (by show 3<9;decide) rfl fun F10 h=> ?_
 refine ⟨_,rfl,ak (h.le _ _ (l68 _ _ K.q1)),rfl,_,rfl,ak (h.le _ _ (l68 _ _ K.q1)),rfl,rfl,rfl,?_⟩
 refine h.newG fun b90 G9 F9 l9 q90 _ h=> ?_
 have l69:=aa l68 l9
 refine h.set2 (w':=Gr.arr {aS with toks:=rH} Sl.nil m3 (Sl.mk (some (Addr.mk b90 0 none)) 2 2) s3 (Sl.mk (some (Addr.mk bb 0 none)) 1 1) Sl.nil Sl.nil) (by show 3<9;decide) rfl fun F10 h=> ?_
 refine ⟨_,h.ld2 rfl,rfl,rfl,rfl,?_⟩
 refine h.newG fun b97 G10 F9 l10 q97 _ h=> ?_
 have l610:=aa l69 l10
 refine ⟨_,rfl,by decide,by (show (0:Int)<1;decide),?_⟩
 simp only [aD]
 refine h.set6 (i:=2) (w':=Pr.arr {tL with brk:=false} (Sl.mk (some (Addr.mk b97 0 none)) 3 3) m3 Sl.nil) (by show 2<13;decide) rfl fun F11 h=> ?_
 refine ⟨_,h.ld2 rfl,_,rfl,by decide,by (show (0:Int)<1;decide),?_⟩
 simp only [aD]
 refine h.set6 (i:=5) (w':=Pr.arr tL (Sl.mk (some (Addr.mk b97 0 none)) 3 3) m3 Sl.nil) (by show 5<13;decide) rfl fun F11 h=> ?_
 refine ⟨_,h.ld2 rfl,?_⟩
 refine h.set1 (w':=Gr.arr {aS with toks:=rH} Sl.nil m4 (Sl.mk (some (Addr.mk b90 0 none)) 2 2) s4 (Sl.mk (some (Addr.mk br 0 none)) 1 1) Sl.nil Sl.nil) (by show 3<9;decide) rfl fun F12 h=> ?_
 refine ⟨_,h.ld1 rfl,_,h.ld2 rfl,_,rfl,by decide,by (show (0:Int)<1;decide),tL.arr (Sl.mk (some (Addr.mk b97 0 none)) 3 3) m3 Sl.nil,rfl,by simp only [aD];exact h.whole6,_,rfl,by decide,by (show (0:Int)<1;decide),?_⟩
 simp only [aD]
 refine h.put5 (w':=tL.arr (Sl.mk (some (Addr.mk b97 0 none)) 3 3) m3 Sl.nil) rfl rfl (by simp [aj,Sl.v]) fun F13 h=> ?_
 refine ⟨_,h.ld1 rfl,_,rfl,by decide,by (show (0:Int)<1;decide),?_⟩
 simp only [aD]
 refine h.set5 (i:=6) (w':=Pr.arr {tL with rank:=1} (Sl.mk (some (Addr.mk b97 0 none)) 3 3) m3 Sl.nil) (by show 6<13;decide) rfl fun F14 h=> ?_
 refine h.newG fun b118 G11 F9 l11 q118 _ h=> ?_
 have l611:=aa l610 l11
 refine ⟨_,rfl,ak (h.le _ _ (l611 _ _ K.q1)),rfl,?_⟩
 refine h.newG fun b121 G12 F9 l12 q121 _ h=> ?_
 have l612:=aa l611 l12
 refine ⟨_,rfl,ak (h.le _ _ (l612 _ _ K.q1)),rfl,rfl,rfl,?_⟩
 refine h.newG fun b124 G13 F9 l13 q124 _ h=> ?_
 have l613:=aa l612 l13
 refine h.set0 (w':=Gr.arr lj Sl.nil m5 Sl.nil s5 p5 (Sl.mk (some (Addr.mk b124 0 none)) 2 2) Sl.nil) (by show 7<9;decide) rfl fun F15 h=> ?_
 obtain ⟨G14,l14,e13,e12,e11,e10,e9,er,eb,h⟩:=h.pin7
 have lE:_:=aa l613 l14
 have l1314:=l14
 have l1214:=aa l13 l14
 have l1114:=aa l12 l1214
 have l1014:=aa l11 l1114
 have l914:=aa l10 l1014
 have l814:=aa l9 l914
 have l714:=aa l8 l814
 have l614:=aa l7 l714
 replace K:=K.le lE
 have tkb:RL G14 (Sl.mk (some (Addr.mk b90 0 none)) 2 2) rH:=⟨[_,_],.cons (gh (p:=Sl.nil) (n:=n) (.nil _) K.hn) (.cons (gh (p:=Sl.nil) (n:=n) (.nil _) K.hn) .nil),RdS.new (l914 _ _ q90) (by kernel_rfl) rfl (Nat.le_refl _)⟩
 have syb:RL G14 (Sl.mk (some (Addr.mk b97 0 none)) 3 3) tL.right:=⟨[_,_,_],.cons rfl (.cons rfl (.cons rfl .nil)),RdS.new (l1014 _ _ q97) (by kernel_rfl) rfl (Nat.le_refl _)⟩
 have g9:GV G14 (Gr.arr tK Sl.nil m1 (Sl.mk (some (Addr.mk b78 0 none)) 1 1) s1 p1 Sl.nil Sl.nil) tK:=⟨_,_,_,_,_,_,_,rfl,.nil _,hm1.le lE,Aw (p:=Sl.nil) (l614 _ _ q78) (.nil _) K.hn,hs1.le lE,hp1.le lE,.nil _,.nil _⟩
 have g10:GV G14 (Gr.arr gN Sl.nil m2 (Sl.mk (some (Addr.mk b84 0 none)) 1 1) s2 p2 Sl.nil Sl.nil) gN:=⟨_,_,_,_,_,_,_,rfl,.nil _,hm2.le lE,Aw (p:=Sl.mk (some (Addr.mk b81 0 none)) 1 1) (l814 _ _ q84) (Ie (x:=⟨1,97,122,0,0⟩) (l714 _ _ q81)) K.hn,hs2.le lE,hp2.le lE,.nil _,.nil _⟩
 have g11:GV G14 (Gr.arr {aS with toks:=rH} Sl.nil m3 (Sl.mk (some (Addr.mk b90 0 none)) 2 2) s3 (Sl.mk (some (Addr.mk bb 0 none)) 1 1) Sl.nil Sl.nil) nL:=⟨_,_,_,_,_,_,_,rfl,.nil _,hm3.le lE,tkb,hs3.le lE,nP eb syb (hm3.le lE) (.nil _),.nil _,.nil _⟩
 have g12:GV G14 (Gr.arr {aS with toks:=rH} Sl.nil m4 (Sl.mk (some (Addr.mk b90 0 none)) 2 2) s4 (Sl.mk (some (Addr.mk br 0 none)) 1 1) Sl.nil Sl.nil) AB:=⟨_,_,_,_,_,_,_,rfl,.nil _,hm4.le lE,tkb,hs4.le lE,nP er syb (hm3.le lE) (.nil _),.nil _,.nil _⟩
 have lvt:RL G14 (Sl.mk (some (Addr.mk b124 0 none)) 2 2) lj.lvs:=⟨[_,_],.cons (dE (n:=n) (dk (l1114 _ _ q118)) K.hn) (.cons (dE (n:=n) (dk (l1214 _ _ q121)) K.hn) .nil),RdS.new (l1314 _ _ q124) (by kernel_rfl) rfl (Nat.le_refl _)⟩
 have g13:GV G14 (Gr.arr lj Sl.nil m5 Sl.nil s5 p5 (Sl.mk (some (Addr.mk b124 0 none)) 2 2) Sl.nil) lj:=⟨_,_,_,_,_,_,_,rfl,.nil _,hm5.le lE,.nil _,hs5.le lE,hp5.le lE,lvt,.nil _⟩
 have z9:Sz tK:=d9 (fun s hs=>(by cases hs)) (by decide) (fun l hl=>(by cases hl)) rfl
 have z10:Sz gN:=d9 (fun s hs=>(by cases hs)) (by decide) (fun l hl=>(by cases hl)) rfl
 have z11:Sz nL:=d9 (fun s hs=>(by cases hs)) (by decide) (fun l hl=>(by cases hl)) rfl
 have z12:Sz AB:=d9 (fun s hs=>(by cases hs)) (by decide) (fun l hl=>(by cases hl)) rfl
 have z13:Sz lj:=d9 (fun s hs=>(by cases hs)) (fun t ht=>(by cases ht)) (by decide) rfl
 refine ⟨_,rfl,ak (h.le _ _ e9),?_⟩
 refine h.runv (dg K.hT g9 z9 AH) fun Ga Fa la h=>⟨_,rfl,fun _=>⟨_,rfl,ak (h.le _ _ (la _ _ e10)),?_⟩,fun hc=>absurd rfl hc⟩
 refine h.runv (dg (K.hT.le la) (g10.le la) z10 tM) fun Gb Fb lb h=>⟨_,rfl,fun _=>⟨_,rfl,ak (h.le _ _ (lb _ _ (la _ _ e11))),?_⟩,fun hc=>absurd rfl hc⟩
 have lab:=aa la lb
 refine h.runv (dg (K.hT.le lab) (g11.le lab) z11 tN) fun Gc Fc lc h=>⟨_,rfl,fun _=>⟨_,rfl,ak (h.le _ _ (lc _ _ (lab _ _ e12))),?_⟩,fun hc=>absurd rfl hc⟩
 have lac:=aa lab lc
 refine h.runv (dg (K.hT.le lac) (g12.le lac) z12 AI) fun Gd Fd ld' h=>⟨_,rfl,fun _=>⟨_,rfl,ak (h.le _ _ (ld' _ _ (lac _ _ e13))),?_⟩,fun hc=>absurd rfl hc⟩
 have lad:=aa lac ld'
 refine h.runv (dg (K.hT.le lad) (g13.le lad) z13 zd) fun Ge Fe le' h=>⟨_,rfl,?_⟩
 dsimp only
 rw [show decide ((53:Int)=53)=true from rfl]
 exact Ih (K.le (aa lad le')) h
theorem Ax (hT:Tab F):ac prog 11 #[] F (RT F):=by
 refine OT ?_
 unfold Ki
 refine (St.start F).run (lq true _) fun _ G1 F1 hr l1 h=> ?_
 obtain ⟨_,rfl,hw⟩:=hr
 obtain ⟨n,rfl,hn⟩:=hw.out
 refine ⟨_,rfl,?_⟩
 refine h.var (w:= #[n.v,vi aH.2]) (by simp [aj,Sl.v]) (fun b1 G2 F2 l2 q1 h=> ?_) rfl rfl
 refine h.firstG fun G3 F3 m s p l3 hm hs hp h=> ?_
 refine ⟨_,rfl,?_⟩
 refine h.var (w:=aS.arr Sl.nil m Sl.nil s p Sl.nil Sl.nil) (by simp [aj,Sl.v]) (fun b2 G4 F4 l4 q2 h=> ?_) rfl rfl
 have l34:=aa l3 l4
 have l24:=aa l2 l34
 have K:SK F G4 b1 b2 n (aS.arr Sl.nil m Sl.nil s p Sl.nil Sl.nil):=⟨aa l1 l24,hT.le (aa l1 l24),l34 _ _ q1,hn.le l24,q2,⟨_,_,_,_,_,_,_,rfl,.nil _,hm.le l4,.nil _,hs.le l4,hp.le l4,.nil _,.nil _⟩⟩
 clear l1 l2 l3 l4 l34 l24 hm hs hp hn q1 q2
 refine h.firstG fun G1 F2 m1 s1 p1 l1 hm1 hs1 hp1 h=> ?_
 refine ⟨_,rfl,?_⟩
 refine h.first fun G2 F3 bl m2 s2 l2 hm2 hs2 h=> ?_
 refine ⟨_,rfl,?_⟩
 refine h.first fun G3 F4 bn m3 s3 l3 hm3 hs3 h=> ?_
 refine ⟨_,rfl,?_⟩
 refine h.firstG fun G4 F5 m4 s4 p4 l4 hm4 hs4 hp4 h=> ?_
 refine ⟨_,rfl,?_⟩
 refine h.firstG fun G5 F6 m5 s5 p5 l5 hm5 hs5 hp5 h=> ?_
 refine ⟨_,rfl,?_⟩
 have l45:=aa l4 l5
 have l35:=aa l3 l45
 have l25:=aa l2 l35
 replace K:=K.le (aa l1 l25)
 replace hm1:=hm1.le l25
 replace hs1:=hs1.le l25
 replace hp1:=hp1.le l25
 replace hm2:=hm2.le l35
 replace hs2:=hs2.le l35
 replace hm3:=hm3.le l45
 replace hs3:=hs3.le l45
 replace hm4:=hm4.le l5
 replace hs4:=hs4.le l5
 replace hp4:=hp4.le l5
 clear l1 l2 l3 l4 l5 l45 l35 l25
 refine h.new fun b3 F7 h=> ?_
 refine h.new fun b4 F7 h=> ?_
 refine h.new fun b5 F7 h=> ?_
 refine h.new fun b6 F7 h=> ?_
 refine h.new fun b7 F7 h=> ?_
 refine h.put4 (w':=aS.arr Sl.nil m1 Sl.nil s1 p1 Sl.nil Sl.nil) rfl rfl (by simp [aj,Sl.v]) fun F8 h=> ?_
 refine h.put3 (w':=aS.arr Sl.nil m2 Sl.nil s2 (Sl.mk (some (Addr.mk bl 0 none)) 1 1) Sl.nil Sl.nil) rfl rfl (by simp [aj,Sl.v]) fun F8 h=> ?_
 refine h.put2 (w':=aS.arr Sl.nil m3 Sl.nil s3 (Sl.mk (some (Addr.mk bn 0 none)) 1 1) Sl.nil Sl.nil) rfl rfl (by simp [aj,Sl.v]) fun F8 h=> ?_
 refine h.put1 (w':=aS.arr Sl.nil m4 Sl.nil s4 p4 Sl.nil Sl.nil) rfl rfl (by simp [aj,Sl.v]) fun F8 h=> ?_
 refine h.put0 (w':=aS.arr Sl.nil m5 Sl.nil s5 p5 Sl.nil Sl.nil) rfl rfl (by simp [aj,Sl.v]) fun F8 h=> ?_
 refine h.set4 (w':=Gr.arr rF Sl.nil m1 Sl.nil s1 p1 Sl.nil Sl.nil) (by show 6<9;decide) rfl fun F9 h=> ?_
 refine ⟨_,h.ld3 rfl,_,rfl,by decide,by (show (0:Int)<1;decide),?_⟩
 simp only [aD]
 refine h.set6 (i:=1) (w':=Pr.arr (aY ⟨#[115]⟩ (-1) []) Sl.nil m2 Sl.nil) (by show 1<13;decide) rfl fun F10 h=> ?_
 refine ⟨_,h.ld2 rfl,_,rfl,by decide,by (show (0:Int)<1;decide),?_⟩
 simp only [aD]
 refine h.set5 (i:=0) (w':=Pr.arr (aY ⟨#[]⟩ 0 []) Sl.nil m3 Sl.nil) (by show 0<13;decide) rfl fun F11 h=> ?_
 refine h.newG fun b39 G6 F12 l6 q39 _ h=> ?_
 refine h.set1 (w':=Gr.arr iv (Sl.mk (some (Addr.mk b39 0 none)) 1 1) m4 Sl.nil s4 p4 Sl.nil Sl.nil) (by show 0<9;decide) rfl fun F13 h=> ?_
 refine h.run (lq false _) fun _ G7 F14 hr l7 h=> ?_
 obtain ⟨_,rfl,hw⟩:=hr
 obtain ⟨m6,rfl,hm6⟩:=hw.out
 refine ⟨_,rfl,?_⟩
 refine h.putR0 (o:=1) (w':=rG.arr Sl.nil m6 Sl.nil s5 p5 Sl.nil Sl.nil) rfl (by simp [aj,Sl.v]) (by show 1+2≤9;decide) rfl fun F15 h=> ?_
 obtain ⟨G8,l8,e7,e6,e5,e4,e3,en,el,h⟩:=h.pin7
 have l78:=aa l7 l8
 have lE:=aa l6 l78
 replace K:=K.le lE
 have g3:GV G8 (Gr.arr rF Sl.nil m1 Sl.nil s1 p1 Sl.nil Sl.nil) rF:=⟨_,_,_,_,_,_,_,rfl,.nil _,hm1.le lE,.nil _,hs1.le lE,hp1.le lE,.nil _,.nil _⟩
 have g4:GV G8 (aS.arr Sl.nil m2 Sl.nil s2 (Sl.mk (some (Addr.mk bl 0 none)) 1 1) Sl.nil Sl.nil) Fw:=⟨_,_,_,_,_,_,_,rfl,.nil _,hm2.le lE,.nil _,hs2.le lE,nP el (.nil _) (hm2.le lE) (.nil _),.nil _,.nil _⟩
 have g5:GV G8 (aS.arr Sl.nil m3 Sl.nil s3 (Sl.mk (some (Addr.mk bn 0 none)) 1 1) Sl.nil Sl.nil) Fx:=⟨_,_,_,_,_,_,_,rfl,.nil _,hm3.le lE,.nil _,hs3.le lE,nP en (.nil _) (hm3.le lE) (.nil _),.nil _,.nil _⟩
 have g6:GV G8 (Gr.arr iv (Sl.mk (some (Addr.mk b39 0 none)) 1 1) m4 Sl.nil s4 p4 Sl.nil Sl.nil) iv:=⟨_,_,_,_,_,_,_,rfl,RL.strs.2 (RdS.new (l78 _ _ q39) rfl rfl (Nat.le_refl _)),hm4.le lE,.nil _,hs4.le lE,hp4.le lE,.nil _,.nil _⟩
 have g7:GV G8 (rG.arr Sl.nil m6 Sl.nil s5 p5 Sl.nil Sl.nil) rG:=⟨_,_,_,_,_,_,_,rfl,.nil _,hm6.le l8,.nil _,hs5.le lE,hp5.le lE,.nil _,.nil _⟩
 have zz:∀g:Gr,(∀s∈g.conds,s.size≤1000000000)→g.toks=[]→g.lvs=[]→g.fils=[]→Sz g:=fun g h1 h2 h3 h4=>d9 h1 (fun t ht=>by rw [h2] at ht;cases ht) (fun l hl=>by rw [h3] at hl;cases hl) h4
 refine ⟨_,rfl,ak (h.le _ _ K.q2),?_⟩
 refine h.runv (dg K.hT K.g2 (zz _ (fun s hs=>(by cases hs)) rfl rfl rfl) ln) fun Ga Fa la h=>⟨_,rfl,fun _=>⟨_,rfl,ak (h.le _ _ (la _ _ e3)),?_⟩,fun hc=>absurd rfl hc⟩
 refine h.runv (dg (K.hT.le la) (g3.le la) (zz _ (fun s hs=>(by cases hs)) rfl rfl rfl) za) fun Gb Fb lb h=>⟨_,rfl,fun _=>⟨_,rfl,ak (h.le _ _ (lb _ _ (la _ _ e4))),?_⟩,fun hc=>absurd rfl hc⟩
 have lab:=aa la lb
 refine h.runv (dg (K.hT.le lab) (g4.le lab) (zz _ (fun s hs=>(by cases hs)) rfl rfl rfl) AE) fun Gc Fc lc h=>⟨_,rfl,fun _=>⟨_,rfl,ak (h.le _ _ (lc _ _ (lab _ _ e5))),?_⟩,fun hc=>absurd rfl hc⟩
 have lac:=aa lab lc
 refine h.runv (dg (K.hT.le lac) (g5.le lac) (zz _ (fun s hs=>(by cases hs)) rfl rfl rfl) AG) fun Gd Fd ld' h=>⟨_,rfl,fun _=>⟨_,rfl,ak (h.le _ _ (ld' _ _ (lac _ _ e6))),?_⟩,fun hc=>absurd rfl hc⟩
 have lad:=aa lac ld'
 refine h.runv (dg (K.hT.le lad) (g6.le lad) (zz _ (by decide) rfl rfl rfl) rJ) fun Ge Fe le' h=>⟨_,rfl,fun _=>⟨_,rfl,ak (h.le _ _ (le' _ _ (lad _ _ e7))),?_⟩,fun hc=>absurd rfl hc⟩
 have lae:=aa lad le'
 refine h.runv (dg (K.hT.le lae) (g7.le lae) (zz _ (fun s hs=>(by cases hs)) rfl rfl rfl) zc) fun Gf Ff lf h=>⟨_,rfl,?_⟩
 dsimp only
 rw [show decide ((54:Int)=54)=true from rfl]
 exact If (K.le (aa lae lf)) h
end
section
variable {g:Gr} {a b:Nat} {n:Int}
end
section
variable {F G F1:PH} {b8:Nat} {w:Array Value} {g:Gr} {want:Int}
end
section
variable {F G F1:PH} {b8:Nat} {g:Gr} {c n t s s1 l f:Sl} {vs:List (Array Value)} {by':Int} {how:Nat}
end
end Go.Proofs.YtenpmjhnhepfdaaGreatDoor
namespace Go.Proofs.YtenpmjhnhepfdaaGreatDoor
open Go Go.ChangeShapes Go.WideShapes Go.ChangeAt Go.RowKit Go.Deep Go.Proofs.Tryz
set_option maxRecDepth 100000
section
variable {H:Type} {enc:TypeId×Value→H} {P:Program} {W:World}
theorem tI {α:Type} {cells:α→List Value} {k:Nat} (hk:∀o,(cells o).length=k):∀{os:List α} {i j:Nat},j<k→(os.flatMap cells)[i*k+j]? =(os[i]?).bind fun o=>(cells o)[j]?
 |[],i,j,_=>by simp
 |o::os,0,j,hj=>by
  rw [List.flatMap_cons,Nat.zero_mul,Nat.zero_add,List.getElem?_append_left (by rw [hk];exact hj)]
  rfl
 |o::os,i+1,j,hj=>by
  rw [List.flatMap_cons,List.getElem?_append_right (by rw [hk,Nat.succ_mul];omega),hk,show (i+1)*k+j - k=i*k+j by rw [Nat.succ_mul];omega,tI hk hj]
  rfl
theorem gM {α:Type} {cells:α→List Value} {k:Nat} (hk:∀o,(cells o).length=k):∀os:List α,(os.flatMap cells).length=os.length*k
 |[]=>by simp
 |o::os=>by rw [List.flatMap_cons,List.length_append,hk,gM hk os,List.length_cons,Nat.succ_mul,Nat.add_comm]
theorem qx {α:Type} [Inhabited α] {t e k:Nat} {cells:α→List Value} {Q:α→Prop} (ht:P.underlying t=some (.slice e)) (hk:P.cellsOf e=k) (hk0:0<k) (hlen:∀o,(cells o).length=k)
  (elem:∀{fuel:Nat} {cs:List Value} {x:DataW H×List MemPlace},DataW.trod enc P W 0 (fun _=>true) true fuel e cs=some x→(x.1.weights P e).all (·≤reachBytes)=true→∃o,cs=cells o∧Q o)
  {fuel:Nat} {c:Value} {x:DataW H×List MemPlace} (h:DataW.trod enc P W 0 (fun _=>true) true fuel t [c]=some x) (hw:(x.1.weights P t).all (·≤reachBytes)=true):
  ∃(sl:Sl) (os:List α),c=Sl.v sl∧RdS (hF W) sl k (os.flatMap cells)∧(∀o∈os,Q o)∧os.length=sl.len∧sl.len*P.bytesOf e≤reachBytes:=by
 rcases open_slice ht h with ⟨hcs,rfl⟩|⟨a,len,cap,m,n,D,Pl,hcs,_,hl,hm,hmm,rfl,hx⟩
 ·cases hcs
  exact ⟨Sl.nil,[],rfl,RdS.nil _ _,by simp,rfl,by simp [Sl.nil]⟩
 ·cases hcs
  simp only [if_true] at hmm
  subst hmm
  rw [hk] at hx
  have hwD:∀i,i<len→((D i).weights P e).all (·≤reachBytes)=true:=fun i hi=>by
   rw [List.all_eq_true] at hw ⊢
   intro y hy
   refine hw y ?_
   simp only [DataW.weights,ht]
   refine List.mem_cons_of_mem _ (List.mem_append_left _ ?_)
   have gen:∀(l:List (DataW H)) (d:DataW H),d∈l→∀y∈d.weights P e,y∈DataW.weightsAll P e l:=by
    intro l
    induction l with
    |nil=>intro d hd;cases hd
    |cons a l ih=>
     intro d hd y hy
     simp only [DataW.weightsAll,List.mem_append]
     rcases List.mem_cons.1 hd with rfl|hd
     ·exact .inl hy
     ·exact .inr (ih d hd y hy)
   exact gen _ (D i) (List.mem_map.2 ⟨i,List.mem_range.2 hi,rfl⟩) y hy
  have hb:m*P.bytesOf e≤reachBytes:=by
   simp only [DataW.weights,ht,List.all_cons,Bool.and_eq_true,decide_eq_true_eq,List.length_map,List.length_range] at hw
   rw [show len+(m - len)=m by omega] at hw
   exact hw.1
  have ho:∀i,i<len→∃o:α,W.cells? 0 (a.add (i*k)) k=some (cells o)∧Q o:=fun i hi=>by
   obtain ⟨cs,h1,h2⟩:=hx i (by omega)
   obtain ⟨o,rfl,h3⟩:=elem h2 (hwD i hi)
   exact ⟨o,h1,h3⟩
  obtain ⟨O,hO⟩:=choose_lt ho
  refine ⟨⟨some a,len,m⟩,(List.range len).map O,rfl,⟨?_,hl,fun hp=> ?_⟩,?_,by simp,Nat.le_trans (Nat.mul_le_mul_right _ hl) hb⟩
  ·rw [gM hlen];simp
  ·simp only at hp
   have h0:=(World.cells?_some (hO 0 (by omega)).1).2.2 0 hk0
   obtain ⟨v0,hv0⟩:∃v,(cells (O 0))[0]? =some v:=⟨_,List.getElem?_eq_getElem (by rw [hlen];exact hk0)⟩
   have hs:=World.cell?_spot (v:=v0) (by rw [h0];exact hv0)
   obtain ⟨b,o,spot⟩:=a
   simp [Addr.add] at hs
   subst hs
   refine ⟨b,o,rfl,fun i hi=> ?_⟩
   rw [gM hlen,List.length_map,List.length_range] at hi
   have hik:i / k<len:=Nat.div_lt_of_lt_mul (by rw [Nat.mul_comm];exact hi)
   have hr:i % k<k:=Nat.mod_lt _ hk0
   have h1:=(World.cells?_some (hO (i / k) hik).1).2.2 (i % k) hr
   have h2:=tI hlen (os:=(List.range len).map O) (i:=i / k) (j:=i % k) hr
   have hdm:i / k*k+i % k=i:=by rw [Nat.mul_comm];exact Nat.div_add_mod i k
   rw [hdm] at h2
   rw [← List.getElem?_eq_getElem,h2]
   simp only [List.getElem?_map,List.getElem?_range hik,Option.map_some,Option.bind_some]
   rw [← h1,aD,aD,Nat.add_assoc,hdm]
   rfl
  ·intro o ho
   obtain ⟨i,hi,rfl⟩:=List.mem_map.1 ho
   exact (hO i (List.mem_range.1 hi)).2
end
section
variable {H:Type} {enc:TypeId×Value→H} {W:World}
instance:Inhabited (Ln×Sl):=⟨⟨⟨0,[],0,0⟩,Sl.nil⟩⟩
instance:Inhabited Ru:=⟨⟨0,0,0,0,0⟩⟩
theorem Ay:prog.cellsOf 22=1:=by kernel_rfl
theorem w7:prog.cellsOf 110=4:=by kernel_rfl
theorem w9:prog.cellsOf 113=5:=by kernel_rfl
theorem DI:prog.cellsOf 26=5:=by kernel_rfl
theorem DJ:prog.cellsOf 23=1:=by kernel_rfl
theorem DK:prog.cellsOf 24=1:=by kernel_rfl
theorem eu {z:Int} (h:(Lit.int .u8 z).wf=true):∃n:Nat,z=n∧n<256:=by
 obtain ⟨h1,h2⟩:=JV h
 exact ⟨z.toNat,by omega,by omega⟩
theorem DL {z:Int} (h:(Lit.int .u16 z).wf=true):∃n:Nat,z=n∧n<65536:=by
 obtain ⟨h1,h2⟩:=bounds_u16 h
 exact ⟨z.toNat,by omega,by omega⟩
theorem jh {fuel:Nat} {c:Value} {x:DataW H×List MemPlace} (h:DataW.trod enc prog W 0 (fun _=>true) true fuel 22 [c]=some x) (hw:(x.1.weights prog 22).all (·≤reachBytes)=true):
  ∃(sl:Sl) (ns:List Nat),c=Sl.v sl∧RdS (hF W) sl 1 (ns.map vB)∧(∀n∈ns,n<256)∧ns.length≤9000000000000000:=by
 obtain ⟨sl,zs,rfl,hr,hz,hb,_⟩:=Dd underlying22 underlying5 pu h hw
 have e:(zs.map Int.toNat).map vB=zs.map (Value.int .u8):=by
  rw [List.map_map]
  refine List.map_congr_left fun z hz'=> ?_
  obtain ⟨n,rfl,_⟩:=eu (hz z hz')
  simp only [Function.comp,Int.toNat_natCast]
 refine ⟨sl,zs.map Int.toNat,rfl,by rw [e];exact hr,fun n hn=> ?_,by rw [List.length_map];exact Fq hr hb⟩
 obtain ⟨z,hz',rfl⟩:=List.mem_map.1 hn
 obtain ⟨n,rfl,hn'⟩:=eu (hz z hz')
 rw [Int.toNat_natCast];exact hn'
theorem yY {fuel:Nat} {cs:List Value} {x:DataW H×List MemPlace} (h:DataW.trod enc prog W 0 (fun _=>true) true fuel 110 cs=some x) (hw:(x.1.weights prog 110).all (·≤reachBytes)=true):
  ∃o:Ln×Sl,cs=[vB o.1.left,o.2.v,vB o.1.cond,vB o.1.mark]∧(RdS (hF W) o.2 1 (o.1.right.map vB)∧o.1.left<256∧o.1.cond<256∧o.1.mark<256∧∀y∈o.1.right,y<256):=by
 obtain ⟨xs,n,_,rfl,hl,hxl,hf⟩:=DataW.trod_struct underlying110 h
 rw [w7] at hl
 match cs,hl with
 |[c0,c1,c2,c3],_=>
 match xs,hxl with
 |[x0,x1,x2,x3],_=>
 have f0:=hf 0 _ rfl
 have f1:=hf 1 _ rfl
 have f2:=hf 2 _ rfl
 have f3:=hf 3 _ rfl
 simp only [pu,Ay,List.drop_zero,List.drop_succ_cons,List.take_succ_cons,List.take_zero,List.getElem?_cons_zero,List.getElem?_cons_succ] at f0 f1 f2 f3
 obtain ⟨z0,e0,_,w0⟩:=DataW.trod_int underlying5 f0
 obtain ⟨z2,e2,_,w2⟩:=DataW.trod_int underlying5 f2
 obtain ⟨z3,e3,_,w3⟩:=DataW.trod_int underlying5 f3
 cases e0;cases e2;cases e3
 have hw1:(x1.1.weights prog 22).all (·≤reachBytes)=true:=by
  rw [List.all_eq_true] at hw ⊢
  intro y hy
  refine hw y ?_
  simp only [DataW.weights,underlying110]
  exact DataW.weights_mem_each (j:=1) rfl rfl y hy
 obtain ⟨sl,ns,rfl,hr,hn,_⟩:=jh f1 hw1
 obtain ⟨n0,rfl,k0⟩:=eu w0
 obtain ⟨n2,rfl,k2⟩:=eu w2
 obtain ⟨n3,rfl,k3⟩:=eu w3
 exact ⟨⟨⟨n0,ns,n2,n3⟩,sl⟩,rfl,hr,k0,k2,k3,hn⟩
theorem yZ {fuel:Nat} {cs:List Value} {x:DataW H×List MemPlace} (h:DataW.trod enc prog W 0 (fun _=>true) true fuel 113 cs=some x) (_hw:(x.1.weights prog 113).all (·≤reachBytes)=true):
  ∃o:Ru,cs=[vB o.kind,vB o.a,vB o.b,vB o.c,vB o.cond]∧(o.kind<256∧o.a<256∧o.b<256∧o.c<256∧o.cond<256):=by
 obtain ⟨xs,n,_,rfl,hl,hxl,hf⟩:=DataW.trod_struct underlying113 h
 rw [w9] at hl
 match cs,hl with
 |[c0,c1,c2,c3,c4],_=>
 match xs,hxl with
 |[x0,x1,x2,x3,x4],_=>
 have f0:=hf 0 _ rfl
 have f1:=hf 1 _ rfl
 have f2:=hf 2 _ rfl
 have f3:=hf 3 _ rfl
 have f4:=hf 4 _ rfl
 simp only [pu,List.drop_zero,List.drop_succ_cons,List.take_succ_cons,List.take_zero,List.getElem?_cons_zero,List.getElem?_cons_succ] at f0 f1 f2 f3 f4
 obtain ⟨z0,e0,_,w0⟩:=DataW.trod_int underlying5 f0
 obtain ⟨z1,e1,_,w1⟩:=DataW.trod_int underlying5 f1
 obtain ⟨z2,e2,_,w2⟩:=DataW.trod_int underlying5 f2
 obtain ⟨z3,e3,_,w3⟩:=DataW.trod_int underlying5 f3
 obtain ⟨z4,e4,_,w4⟩:=DataW.trod_int underlying5 f4
 cases e0;cases e1;cases e2;cases e3;cases e4
 obtain ⟨n0,rfl,k0⟩:=eu w0
 obtain ⟨n1,rfl,k1⟩:=eu w1
 obtain ⟨n2,rfl,k2⟩:=eu w2
 obtain ⟨n3,rfl,k3⟩:=eu w3
 obtain ⟨n4,rfl,k4⟩:=eu w4
 exact ⟨⟨n0,n1,n2,n3,n4⟩,rfl,k0,k1,k2,k3,k4⟩
theorem rE {α β:Type} [Mem β] {F:PH} {cells:α→List Value} {f:α→β}:∀{os:List α},(∀o∈os,Mem.rep F (f o) (cells o).toArray)→cZ F (os.map f) (os.map fun o=>(cells o).toArray)
 |[],_=> .nil
 |o::os,h=> .cons (h o (by simp)) (rE fun x hx=>h x (by simp [hx]))
theorem Az {α:Type} (cells:α→List Value) (os:List α):cat (os.map fun o=>(cells o).toArray)=os.flatMap cells:=by
 unfold cat
 rw [List.flatMap_map]
theorem AA {fuel:Nat} {cs:Array Value} {x:DataW H×List MemPlace} (h:DataW.trod enc prog W 0 (fun _=>true) true fuel 26 cs.toList=some x) (hw:(x.1.weights prog 26).all (·≤reachBytes)=true):
  ∃r:Rw,vn (hF W) cs r:=by
 obtain ⟨xs,n,_,rfl,hl,hxl,hf⟩:=DataW.trod_struct underlying26 h
 rw [DI] at hl
 obtain ⟨cs⟩:=cs
 match cs,hl with
 |[c0,c1,c2,c3,c4],_=>
 match xs,hxl with
 |[x0,x1,x2,x3,x4],_=>
 have f0:=hf 0 _ rfl
 have f1:=hf 1 _ rfl
 have f2:=hf 2 _ rfl
 have f3:=hf 3 _ rfl
 have f4:=hf 4 _ rfl
 simp only [pu,Ay,DJ,DK,List.drop_zero,List.drop_succ_cons,List.take_succ_cons,List.take_zero,List.getElem?_cons_zero,List.getElem?_cons_succ] at f0 f1 f2 f3 f4
 obtain ⟨z0,e0,_,w0⟩:=DataW.trod_int underlying5 f0
 obtain ⟨z1,e1,_,w1⟩:=DataW.trod_int underlying5 f1
 cases e0;cases e1
 have hw2:(x2.1.weights prog 22).all (·≤reachBytes)=true:=by
  rw [List.all_eq_true] at hw ⊢
  intro y hy
  refine hw y ?_
  simp only [DataW.weights,underlying26]
  exact DataW.weights_mem_each (j:=2) rfl rfl y hy
 have hw3:(x3.1.weights prog 23).all (·≤reachBytes)=true:=by
  rw [List.all_eq_true] at hw ⊢
  intro y hy
  refine hw y ?_
  simp only [DataW.weights,underlying26]
  exact DataW.weights_mem_each (j:=3) rfl rfl y hy
 have hw4:(x4.1.weights prog 24).all (·≤reachBytes)=true:=by
  rw [List.all_eq_true] at hw ⊢
  intro y hy
  refine hw y ?_
  simp only [DataW.weights,underlying26]
  exact DataW.weights_mem_each (j:=4) rfl rfl y hy
 obtain ⟨sf,ns,rfl,hr2,hn2,_⟩:=jh f2 hw2
 obtain ⟨sl,ls,rfl,hr3,hq3,_,_⟩:=qx (k:=4) (cells:=fun o:Ln×Sl=>[vB o.1.left,o.2.v,vB o.1.cond,vB o.1.mark]) underlying23 w7 (by decide) (fun _=>rfl) yY f3 hw3
 obtain ⟨sr,rs,rfl,hr4,hq4,_,_⟩:=qx (k:=5) (cells:=fun o:Ru=>[vB o.kind,vB o.a,vB o.b,vB o.c,vB o.cond]) underlying24 w9 (by decide) (fun _=>rfl) yZ f4 hw4
 obtain ⟨n0,rfl,k0⟩:=eu w0
 obtain ⟨n1,rfl,k1⟩:=eu w1
 refine ⟨⟨n0,n1,ns,ls.map Prod.fst,rs⟩,⟨sf,sl,sr,rfl,hr2,⟨_,rE (f:=Prod.fst) (cells:=fun o:Ln×Sl=>[vB o.1.left,o.2.v,vB o.1.cond,vB o.1.mark]) fun o ho=> ?_,by rw [Az];exact hr3⟩,⟨_,?_,by rw [Az (fun o:Ru=>[vB o.kind,vB o.a,vB o.b,vB o.c,vB o.cond])];exact hr4⟩⟩,k0,k1⟩
 ·obtain ⟨h1,h2⟩:=hq3 o ho
  exact ⟨o.2,rfl,h1,h2⟩
 ·have:=rE (F:=hF W) (f:=fun o:Ru=>o) (cells:=fun o:Ru=>[vB o.kind,vB o.a,vB o.b,vB o.c,vB o.cond]) (os:=rs) fun o ho=>⟨rfl,hq4 o ho⟩
  rw [List.map_id'] at this
  exact this
end
end Go.Proofs.YtenpmjhnhepfdaaGreatDoor
