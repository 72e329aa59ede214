/-
  The six known grammars. Printed by a program (mkIe.py).
-/
import Derived.Test.YtenpmjhnhepfdaaGreatDoorIc
namespace Go.Proofs.YtenpmjhnhepfdaaGreatDoor
open Go Go.Proofs.Tryz Tr
set_option maxRecDepth 10000
theorem St.imp {G F:PH} {As:List (PH→Prop)} (h:St G F As) (i:Nat) {A A':PH→Prop} (hi:As[i]? =some A) (f:∀H,H.le F→A H→A' H):St G F (As.set i A'):=by
 obtain ⟨H,a1,a2,a3,a4⟩:=h.set (A':=A') hi
 exact a4 H F (f H a3 a1) (fun b hb=> .inl hb) a3 fun b o hb _=>hb
def rW:List ByteArray:=[⟨#[43]⟩,⟨#[42]⟩,⟨#[40]⟩,⟨#[41]⟩,⟨#[105,102]⟩,⟨#[101,108,115,101]⟩,⟨#[59]⟩,⟨#[94]⟩]
def jH:Tk:=⟨⟨#[105,100]⟩,0,⟨#[]⟩,[⟨1,97,122,0,0⟩,⟨1,97,122,0,0⟩,⟨4,0,0,1,0⟩,⟨2,0,0,0,2⟩],⟨#[120]⟩,aH⟩
def tkL (x:ByteArray):Tk:=⟨x,0,x,[],⟨#[]⟩,aH⟩
def iE:Tk:=⟨⟨#[115,112,97,99,101]⟩,1,⟨#[]⟩,[⟨1,9,10,0,0⟩,⟨1,32,32,0,0⟩,⟨3,0,0,0,1⟩,⟨1,9,10,0,0⟩,⟨1,32,32,0,0⟩,⟨3,0,0,3,4⟩,⟨4,0,0,5,0⟩,⟨2,0,0,2,6⟩],⟨#[]⟩,aH⟩
def fK:Tk:=⟨⟨#[114,101,109,97,114,107]⟩,2,⟨#[]⟩,[⟨1,37,37,0,0⟩,⟨1,97,122,0,0⟩,⟨1,32,32,0,0⟩,⟨3,0,0,1,2⟩,⟨4,0,0,3,0⟩,⟨2,0,0,0,4⟩],⟨#[]⟩,aH⟩
def dF:List Tk:=jH::rW.map tkL++[iE,fK]
theorem gh {F:PH} {x:Tk} {p n:Sl} (hp:RL F p x.pat) (hn:RL F n x.cond.1):Mem.rep F x (x.arr p n):=⟨p,n,rfl,hp,hn⟩
theorem lY (F:PH):ac prog 113 #[] F fun r F'=>(∃s,r=Sl.v s∧RL F' s dF)∧F.le F':=by
 obtain ⟨_,_,T⟩:=Io
 refine Oa ?_
 unfold HO
 refine (St.start F).run (fM _) fun _ G1 F1 hr l1 h=> ?_
 obtain ⟨w,rfl,hw⟩:=hr
 obtain ⟨n,rfl,hn⟩:=hw.out
 refine ⟨_,rfl,?_⟩
 refine h.new fun b1 F2 h=> ?_
 refine h.put0 (w':= #[n.v,vi aH.2]) rfl rfl (by simp [aj,Sl.v]) fun F3 h=> ?_
 refine ⟨_,rfl,h.whole0,rfl,rfl,?_⟩
 refine h.new fun b10 F4 h=> ?_
 refine h.runv (cS 97 122 _) fun G2 F5 l2 h=> ?_
 refine ⟨_,rfl,?_⟩
 refine h.runv (cS 97 122 _) fun G3 F6 l3 h=> ?_
 refine ⟨_,rfl,?_⟩
 refine h.runv (bH 4 1 0 _) fun G4 F7 l4 h=> ?_
 refine ⟨_,rfl,?_⟩
 refine h.runv (bH 2 0 2 _) fun G5 F8 l5 h=> ?_
 refine ⟨_,rfl,rfl,rfl,rfl,rfl,?_⟩
 refine h.newG fun b16 G6 F9 l6 q16 _ h=> ?_
 have l16:G1.le G6:=aa l2 (aa l3 (aa l4 (aa l5 l6)))
 have h:=h.imp (A':=own (Sl.mk (some (Addr.mk b10 0 none)) 1 1) 79 7 (cat [Tk.arr ⟨⟨#[105,100]⟩,0,⟨#[]⟩,[],⟨#[120]⟩,aH⟩ Sl.nil n])) 0 rfl fun H _ hH=> .inr ⟨b10,_,rfl,hH,rfl,Nat.le_refl _,rfl,rfl⟩
 refine h.el1 0 rfl (by simp) (c:=Tk.arr ⟨⟨#[105,100]⟩,0,⟨#[]⟩,[],⟨#[120]⟩,aH⟩ Sl.nil n) (k:=0) rfl (by decide) (by decide) fun F10 h=> ?_
 refine h.newG fun b19 G7 F11 l7 q19 _ h=> ?_
 have lt:=aa l16 l7
 have r0:cZ G7 [jH] [jH.arr (Sl.mk (some (Addr.mk b16 0 none)) 4 4) n]:=.cons (gh ⟨[_,_,_,_],.cons rfl (.cons rfl (.cons rfl (.cons rfl .nil))),RdS.new (l7 _ _ q16) rfl rfl (Nat.le_refl _)⟩ (hn.le lt)) .nil
 replace h:St G7 F11 [own (Sl.mk (some (Addr.mk b10 0 none)) 1 1) 79 7 (cat [jH.arr (Sl.mk (some (Addr.mk b16 0 none)) 4 4) n]),pt b1 (.cells #[n.v,vi aH.2] 33)]:=h
 have hl:RL G7 (Sl.mk (some (Addr.mk b19 0 none)) 8 8) rW:=RL.strs.2 (RdS.new q19 rfl rfl (Nat.le_refl _))
 have lF:F.le G7:=aa l1 lt
 refine ⟨fun m out i F'=>∃k:Nat,k≤8∧i=k∧m=8 - k∧out.len=k+1∧∃G vs,G7.le G∧cZ G (jH::(rW.take k).map tkL) vs∧St G F' [own out 79 7 (cat vs),pt b1 (.cells #[n.v,vi aH.2] 33)],8,⟨0,by decide,rfl,rfl,rfl,G7,_,le_refl' _,r0,h⟩,?_⟩
 rintro m out i F' ⟨k,hk,rfl,rfl,hlen,G,vs,lG,hr,h⟩
 unfold yP
 refine ⟨fun hi=> ?_,fun hi=> ?_⟩
 ·have hk8:k<8:=by have:(k:Int)<8:=hi;omega
  have hx:rW[k]? =some (rW[k]'hk8):=List.getElem?_eq_getElem hk8
  generalize rW[k]=x at hx
  obtain ⟨a,c,ha,hrow,hc⟩:=hl.get (by decide) hx
  cases hc
  cases ha
  have hcell:∀{F':PH},G7.le F'→F'.cell (Addr.add (Addr.mk b19 0 none) (Int.toNat (k:Int)*1))=some (.string x):=fun hF=>aJ (lK hF hrow) rfl
  refine ⟨_,rfl,by omega,hi,x,hcell (aa lG h.le),_,rfl,by omega,hi,x,hcell (aa lG h.le),_,rfl,h.whole1,rfl,rfl,?_⟩
  refine h.push0 T (c:=(tkL x).arr Sl.nil n) rfl (by simp [aj,Sl.v]) (by omega) fun s' G' F2 l' h hl'=> ?_
  refine ⟨h.whole1,hcell (aa lG (aa l' h.le)),hcell (aa lG (aa l' h.le)),8 - (k+1),by omega,k+1,by omega,?_,rfl,by omega,G',vs++[(tkL x).arr Sl.nil n],aa lG l',?_,?_⟩
  ·exact aQ (n:=8) hk8 (by decide)
  ·have e:rW.take (k+1)=rW.take k++[x]:=by rw [List.take_add_one,hx];rfl
   rw [e,List.map_append,← List.cons_append]
   exact (hr.le l').append (.cons (gh (.nil _) (hn.le (aa lt (aa lG l')))) .nil)
  ·rw [dr,dU]
   exact h
 ·have hk8:k=8:=by have:¬(k:Int)<8:=hi;omega
  subst hk8
  unfold yO
  have r9:=hr
  refine h.runv (cS 9 10 _) fun H1 F1 m1 h=> ?_
  refine ⟨_,rfl,?_⟩
  refine h.runv (cS 32 32 _) fun H2 F1 m2 h=> ?_
  refine ⟨_,rfl,?_⟩
  refine h.runv (bH 3 0 1 _) fun H3 F1 m3 h=> ?_
  refine ⟨_,rfl,?_⟩
  refine h.runv (cS 9 10 _) fun H4 F1 m4 h=> ?_
  refine ⟨_,rfl,?_⟩
  refine h.runv (cS 32 32 _) fun H5 F1 m5 h=> ?_
  refine ⟨_,rfl,?_⟩
  refine h.runv (bH 3 3 4 _) fun H6 F1 m6 h=> ?_
  refine ⟨_,rfl,?_⟩
  refine h.runv (bH 4 5 0 _) fun H7 F1 m7 h=> ?_
  refine ⟨_,rfl,?_⟩
  refine h.runv (bH 2 2 6 _) fun H8 F1 m8 h=> ?_
  refine ⟨_,rfl,rfl,rfl,rfl,rfl,rfl,rfl,rfl,rfl,?_⟩
  refine h.newG fun b47 H9 F1 m9 q47 _ h=> ?_
  refine h.runv (cS 37 37 _) fun I1 F1 n1 h=> ?_
  refine ⟨_,rfl,?_⟩
  refine h.runv (cS 97 122 _) fun I2 F1 n2 h=> ?_
  refine ⟨_,rfl,?_⟩
  refine h.runv (cS 32 32 _) fun I3 F1 n3 h=> ?_
  refine ⟨_,rfl,?_⟩
  refine h.runv (bH 3 1 2 _) fun I4 F1 n4 h=> ?_
  refine ⟨_,rfl,?_⟩
  refine h.runv (bH 4 3 0 _) fun I5 F1 n5 h=> ?_
  refine ⟨_,rfl,?_⟩
  refine h.runv (bH 2 0 4 _) fun I6 F1 n6 h=> ?_
  refine ⟨_,rfl,rfl,rfl,rfl,rfl,rfl,rfl,?_⟩
  refine h.newG fun b54 I7 F1 n7 q54 _ h=> ?_
  refine ⟨_,rfl,h.whole1,rfl,rfl,?_⟩
  refine h.push0 T (c:=iE.arr (Sl.mk (some (Addr.mk b47 0 none)) 8 8) n) rfl (by simp [aj,Sl.v]) (by omega) fun s1 I8 F1 n8 h hl1=> ?_
  refine ⟨_,rfl,h.whole1,rfl,rfl,?_⟩
  refine h.push0 T (c:=fK.arr (Sl.mk (some (Addr.mk b54 0 none)) 6 6) n) rfl (by simp [aj,Sl.v]) (by omega) fun s2 I9 F1 n9 h hl2=> ?_
  obtain ⟨ho,-⟩:=h.ownAt (i:=0) rfl
  have i89:=aa n8 n9
  have i79:=aa n7 i89
  have iH:H9.le I9:=aa n1 (aa n2 (aa n3 (aa n4 (aa n5 (aa n6 i79)))))
  have iG:G.le I9:=aa m1 (aa m2 (aa m3 (aa m4 (aa m5 (aa m6 (aa m7 (aa m8 (aa m9 iH))))))))
  have hn9:=hn.le (aa lt (aa lG iG))
  refine ⟨⟨s2,rfl,vs++[iE.arr (Sl.mk (some (Addr.mk b47 0 none)) 8 8) n]++[fK.arr (Sl.mk (some (Addr.mk b54 0 none)) 6 6) n],?_,?_⟩,aa lF (aa lG (aa iG h.le))⟩
  ·have e:dF=(jH::(rW.take 8).map tkL)++[iE]++[fK]:=rfl
   rw [e]
   have p1:RL I9 (Sl.mk (some (Addr.mk b47 0 none)) 8 8) iE.pat:=RL.nds.2 (RdS.new (iH _ _ q47) rfl rfl (Nat.le_refl _))
   have p2:RL I9 (Sl.mk (some (Addr.mk b54 0 none)) 6 6) fK.pat:=RL.nds.2 (RdS.new (i89 _ _ q54) rfl rfl (Nat.le_refl _))
   exact (((hr.le iG).append (.cons (gh p1 hn9) .nil)).append (.cons (gh p2 hn9) .nil)).le h.le
  ·rw [dr,dr,dU,dU]
   exact ho.rd
abbrev dG (nons:List ByteArray):Gr:=⟨[⟨#[65]⟩,⟨#[66]⟩],aH,dF,nons,[],0,[],[]⟩
theorem qO {F:PH} {s:Sl} {nons:List ByteArray} (hs:RL F s nons):ac prog 38 #[s.v] F fun r F'=>(∃c n t,r=.agg ((dG nons).arr c n t s Sl.nil Sl.nil Sl.nil)∧RL F' c (dG nons).conds∧RL F' n aH.1∧RL F' t dF∧RL F' s nons)∧F.le F':=by
 refine QB ?_
 unfold NW
 refine (St.start F).new fun b2 F1 h=> ?_
 refine h.run (fM _) fun _ G1 F1 hr l1 h=> ?_
 obtain ⟨w,rfl,hw⟩:=hr
 obtain ⟨n,rfl,hn⟩:=hw.out
 refine ⟨_,rfl,?_⟩
 refine h.new fun b3 F2 h=> ?_
 refine h.put0 (w':= #[n.v,vi aH.2]) rfl rfl (by simp [aj,Sl.v]) fun F3 h=> ?_
 refine ⟨_,rfl,h.whole0,?_,?_⟩
 ·refine h.newG fun b5 G2 F4 l2 q _ h=> ?_
  refine h.run (lY _) fun _ G3 F5 hr l3 h=> ?_
  obtain ⟨t,rfl,ht⟩:=hr
  refine ⟨_,rfl,h.whole0,rfl,?_⟩
  refine h.put1 (w':=(dG nons).arr (Sl.mk (some (Addr.mk b5 0 none)) 2 2) n t s Sl.nil Sl.nil Sl.nil) rfl rfl (by simp [aj,Sl.v]) fun F3 h=> ?_
  have l23:=aa l2 l3
  exact ⟨_,rfl,h.whole1,⟨_,n,t,rfl,RL.strs.2 (RdS.new (h.le _ _ (l3 _ _ q)) rfl rfl (Nat.le_refl _)),hn.le (aa l23 h.le),ht.le h.le,hs.le (aa l1 (aa l23 h.le))⟩,aa l1 (aa l23 h.le)⟩
 ·refine h.run (lY _) fun _ G3 F5 hr l3 h=> ?_
  obtain ⟨t,rfl,ht⟩:=hr
  refine ⟨_,rfl,h.whole0,?_⟩
  refine h.newG fun b5 G2 F4 l2 q _ h=> ?_
  refine ⟨rfl,?_⟩
  refine h.put1 (w':=(dG nons).arr (Sl.mk (some (Addr.mk b5 0 none)) 2 2) n t s Sl.nil Sl.nil Sl.nil) rfl rfl (by simp [aj,Sl.v]) fun F3 h=> ?_
  have l23:=aa l3 l2
  exact ⟨_,rfl,h.whole1,⟨_,n,t,rfl,RL.strs.2 (RdS.new (h.le _ _ q) rfl rfl (Nat.le_refl _)),hn.le (aa l23 h.le),ht.le (aa l2 h.le),hs.le (aa l1 (aa l23 h.le))⟩,aa l1 (aa l23 h.le)⟩
theorem fL (F:PH) {arr:Array Value} {k:Nat} (nons:List ByteArray) (ha:arr.toList=nons.map Value.string) (hk:nons.length=k) {C:Nat→Nat→PH→Prop} (kk:∀b0 b1 F',KS F F' b0 b1 (dG nons)→C b0 b1 F'):
  ∀b0,F b0=none→atF (F.set b0 (.cells zG 39)) fun F=>∀b3,F b3=none→atF (F.set b3 (.cells arr 9)) fun F=>ac prog 38 #[Sl.v (Sl.mk (some (Addr.mk b3 0 none)) k k)] F fun v F=>∃w:Array Value,v=.agg w∧
   ∀b1,F b1=none→atF (F.set b1 (.cells zG 39)) fun F=>aA F (Addr.mk b1 0 none) 9 w (C b0 b1):=by
 refine (St.start F).new fun b0 F1 h=> ?_
 refine h.newG fun b3 G1 F2 l1 q _ h=> ?_
 have hs:RL G1 (Sl.mk (some (Addr.mk b3 0 none)) k k) nons:=RL.strs.2 (RdS.new q (by rw [Nat.mul_one,← hk,← List.length_map (f:=Value.string),← ha];exact List.take_length) (by rw [List.length_map];omega) (Nat.le_refl _))
 refine h.run (qO hs) fun _ G2 F3 hr l2 h=> ?_
 obtain ⟨c,n,t,rfl,h1,h2,h3,h4⟩:=hr
 refine ⟨_,rfl,?_⟩
 refine h.new fun b1 F4 h=> ?_
 refine h.put0 (w':=(dG nons).arr c n t (Sl.mk (some (Addr.mk b3 0 none)) k k) Sl.nil Sl.nil Sl.nil) rfl rfl (by simp [aj,Sl.v]) fun F5 h=> ?_
 have h:=(h.nilOwn 67 13).swap
 exact kk _ _ _ ⟨G2,c,n,t,_,Sl.nil,Sl.nil,Sl.nil,[],aa l1 l2,h,.nil,h1,h2,h3,h4,.nil _,.nil _⟩
theorem KS.allv {K F:PH} {b0 b1:Nat} {g:Gr} (h:KS K F b0 b1 g) {C:Nat→PH→Prop} (k:∀b K' F' n,K.le K'→K' b=some (.cells #[Sl.v n,vi aH.2] 33)→RL K' n aH.1→KS K' F' b0 b1 g→C b F'):
  ac prog 89 #[.bool true] F fun v F=>∃w:Array Value,v=.agg w∧∀b,F b=none→atF (F.set b (.cells #[.slice none 0 0,.int .i64 0] 33)) fun F=>aA F (Addr.mk b 0 none) 2 w (C b):=by
 refine h.run (fun G _=>fM G) fun _ K1 F1 hr l1 h=> ?_
 obtain ⟨w,rfl,hw⟩:=hr
 obtain ⟨n,rfl,hn⟩:=hw.out
 refine ⟨_,rfl,?_⟩
 obtain ⟨G,c,n',t,s,sp,l,f,vs,h⟩:=h
 refine h.st.new fun b F2 st=> ?_
 refine st.put0 (w':= #[n.v,vi aH.2]) rfl rfl (by simp [aj,Sl.v]) fun F3 st=> ?_
 refine st.pinb fun G' l2 q st=> ?_
 have l3:=aa h.k l2
 exact k b G' F3 n (aa l1 l3) q (hn.le l3) ⟨G',c,n',t,s,sp,l,f,vs,le_refl' _,st,h.r.le l2,h.c.le l2,h.n.le l2,h.t.le l2,h.s.le l2,h.l.le l2,h.f.le l2⟩
noncomputable abbrev cI (v:Nat):Dia:=dia (ap2 ii (tv v) (leaf true))
theorem bg {F:PH} {v:Array Value} {x:Nat} (hx:x<6) (h:DV F v (dia (tv x))):ac prog 97 #[.agg v] F fun r F'=>rY (cI x) r F'∧F.le F':=
 (oD h ((Sx.tv (n:=6) hx (by decide)).f2 (Sx.leaf 6 true) (by decide))).mono fun _ _ ⟨w,h1,h2,h3⟩=>⟨⟨w,h1,h2⟩,h3⟩
noncomputable def cR:Gr:={(dG [⟨#[69]⟩]) with prods:=[aY ⟨#[97,100,100]⟩ 0 [⟨false,0⟩,⟨true,1⟩,⟨false,0⟩],aY ⟨#[109,117,108]⟩ 0 [⟨false,0⟩,⟨true,2⟩,⟨false,0⟩],{(aY ⟨#[98,114,97,99,107,101,116]⟩ 0 [⟨true,3⟩,⟨false,0⟩,⟨true,4⟩]) with brk:=true},aY ⟨#[110,97,109,101]⟩ 0 [⟨true,0⟩],{(aY ⟨#[112,111,119]⟩ 0 [⟨false,0⟩,⟨true,8⟩,⟨false,0⟩]) with cond:=dia (tv 1)}],lvs:=[⟨[4],2,aH⟩,⟨[1],1,aH⟩,⟨[0],1,cI 0⟩]}
noncomputable def cj:Gr:={(dG [⟨#[83]⟩,⟨#[67]⟩]) with prods:=[aY ⟨#[98,111,116,104]⟩ 0 [⟨true,5⟩,⟨false,1⟩,⟨false,0⟩,⟨true,6⟩,⟨false,0⟩],aY ⟨#[116,104,101,110]⟩ 0 [⟨true,5⟩,⟨false,1⟩,⟨false,0⟩],aY ⟨#[99,97,108,108]⟩ 0 [⟨false,1⟩,⟨true,7⟩],{(aY ⟨#[98,108,111,99,107]⟩ 0 [⟨true,3⟩,⟨false,0⟩,⟨true,4⟩]) with brk:=true},aY ⟨#[119,111,114,100]⟩ 1 [⟨true,0⟩]],fils:=[⟨2,0,2,1,0,0,[],dia (tv 0)⟩,⟨5,0,0,0,0,0,[5,6],dia (tv 1)⟩]}
noncomputable def d7:Gr:={(dG [⟨#[76]⟩,⟨#[73]⟩]) with prods:=[aY ⟨#[101,109,112,116,121]⟩ 0 [],aY ⟨#[109,111,114,101]⟩ 0 [⟨false,0⟩,⟨false,1⟩],{(aY ⟨#[116,121,112,101]⟩ 1 [⟨true,1⟩,⟨true,0⟩,⟨true,7⟩]) with sco:=⟨false,2,1,0,0⟩},{(aY ⟨#[112,111,105,110,116,101,114]⟩ 1 [⟨true,0⟩,⟨true,2⟩,⟨true,0⟩,⟨true,7⟩]) with sco:=⟨false,3,2,1,2⟩},{(aY ⟨#[112,114,111,100,117,99,116]⟩ 1 [⟨true,0⟩,⟨true,2⟩,⟨true,0⟩,⟨true,7⟩]) with sco:=⟨false,0,0,1,5⟩,rank:= -1},{(aY ⟨#[105,110,110,101,114]⟩ 1 [⟨true,3⟩,⟨false,0⟩,⟨true,4⟩]) with sco:=⟨true,0,0,0,0⟩},{(aY ⟨#[115,116,114,105,99,116]⟩ 1 [⟨true,0⟩,⟨true,7⟩]) with sco:=⟨false,0,0,1,6⟩,cond:=dia (tv 0)}]}
noncomputable def mJ:Gr:={(dG [⟨#[66]⟩,⟨#[73]⟩]) with prods:=[aY ⟨#[111,110,101]⟩ 0 [⟨false,1⟩],{(aY ⟨#[108,105,115,116]⟩ 0 [⟨false,0⟩,⟨false,1⟩]) with lay:=[⟨2,0,1⟩]},aY ⟨#[119,111,114,100]⟩ 1 [⟨true,0⟩],{(aY ⟨#[104,101,97,100]⟩ 1 [⟨true,5⟩,⟨true,0⟩,⟨false,0⟩]) with lay:=[⟨3,0,2⟩,⟨1,2,0⟩]},{(aY ⟨#[108,105,110,101]⟩ 1 [⟨true,5⟩,⟨false,0⟩]) with lay:=[⟨4,0,1⟩],cond:=dia (tv 0)}]}
noncomputable def jI:Gr:={(dG [⟨#[83]⟩,⟨#[87]⟩,⟨#[86]⟩]) with prods:=[aY ⟨#[112,97,105,114]⟩ 0 [⟨false,1⟩,⟨false,2⟩],{(aY ⟨#[115,105,110,103,108,101]⟩ 1 [⟨true,0⟩]) with rank:= -1},aY ⟨#[100,111,117,98,108,101]⟩ 1 [⟨true,0⟩,⟨true,0⟩],aY ⟨#[110,111,110,101]⟩ 2 [],aY ⟨#[110,101,120,116]⟩ 2 [⟨true,0⟩,⟨false,2⟩],{(aY ⟨#[109,97,114,107]⟩ 2 [⟨true,1⟩,⟨false,2⟩]) with cond:=dia (tv 1)}],fils:=[⟨3,0,0,0,1,0,[0],dia (tv 0)⟩,⟨4,0,0,0,2,0,[1],cI 1⟩]}
noncomputable def jJ:Gr:={(dG [⟨#[83]⟩,⟨#[79]⟩,⟨#[80]⟩]) with prods:=[aY ⟨#[97,108,108]⟩ 0 [⟨false,1⟩,⟨true,0⟩,⟨false,1⟩,⟨false,2⟩],aY ⟨#[110,111]⟩ 1 [],aY ⟨#[121,101,115]⟩ 1 [⟨true,1⟩],aY ⟨#[101,110,100]⟩ 2 [],{(aY ⟨#[114,101,115,116]⟩ 2 [⟨true,1⟩,⟨false,2⟩]) with cond:=dia (tv 0)}]}
theorem jK (F:PH):ac prog 109 #[] F fun r F'=>(∃w,r=.agg w∧GV F' w d7)∧F.le F':=by
 refine N6 ?_
 unfold HJ
 refine fL F [⟨#[76]⟩,⟨#[73]⟩] rfl rfl fun b0 b1 F1 h=> ?_
 refine h.rule0 (by decide) fun F2 h=> ?_
 refine h.rule2 (dx 0) (dx 1) (by decide) fun F2 h=> ?_
 refine h.rule3 (ce 1) (ce 0) (ce 7) (by decide) fun F2 h=> ?_
 refine h.rule4 (ce 0) (ce 2) (ce 0) (ce 7) (by decide) fun F2 h=> ?_
 refine h.rule4 (ce 0) (ce 2) (ce 0) (ce 7) (by decide) fun F2 h=> ?_
 refine h.rule3 (ce 3) (dx 0) (ce 4) (by decide) fun F2 h=> ?_
 refine h.rule2 (ce 0) (ce 7) (by decide) fun F2 h=> ?_
 refine h.sco 2 rfl fun F2 h=> ?_
 refine h.sco 3 rfl fun F2 h=> ?_
 refine h.sco 4 rfl fun F2 h=> ?_
 refine h.sco 5 rfl fun F2 h=> ?_
 refine h.sco 6 rfl fun F2 h=> ?_
 refine h.rank 4 rfl fun F2 h=> ?_
 refine h.cnd 6 rfl 0 (by decide) fun F2 h=> ?_
 exact h.fin (R:=fun r F'=>(∃w,r=.agg w∧GV F' w d7)∧F.le F') fun w F' hv hl=>⟨⟨w,rfl,hv⟩,hl⟩
theorem t8 (F:PH):ac prog 110 #[] F fun r F'=>(∃w,r=.agg w∧GV F' w mJ)∧F.le F':=by
 refine N7 ?_
 unfold HK
 refine fL F [⟨#[66]⟩,⟨#[73]⟩] rfl rfl fun b0 b1 F1 h=> ?_
 refine h.rule1 (dx 1) (by decide) fun F2 h=> ?_
 refine h.rule2 (dx 0) (dx 1) (by decide) fun F2 h=> ?_
 refine h.rule1 (ce 0) (by decide) fun F2 h=> ?_
 refine h.rule3 (ce 5) (ce 0) (dx 0) (by decide) fun F2 h=> ?_
 refine h.rule2 (ce 5) (dx 0) (by decide) fun F2 h=> ?_
 refine h.lay1 1 rfl fun F2 h=> ?_
 refine h.lay2 3 rfl fun F2 h=> ?_
 refine h.lay1 4 rfl fun F2 h=> ?_
 refine h.cnd 4 rfl 0 (by decide) fun F2 h=> ?_
 exact h.fin (R:=fun r F'=>(∃w,r=.agg w∧GV F' w mJ)∧F.le F') fun w F' hv hl=>⟨⟨w,rfl,hv⟩,hl⟩
theorem rX (F:PH):ac prog 112 #[] F fun r F'=>(∃w,r=.agg w∧GV F' w jJ)∧F.le F':=by
 refine N9 ?_
 unfold HN
 refine fL F [⟨#[83]⟩,⟨#[79]⟩,⟨#[80]⟩] rfl rfl fun b0 b1 F1 h=> ?_
 refine h.rule4 (dx 1) (ce 0) (dx 1) (dx 2) (by decide) fun F2 h=> ?_
 refine h.rule0 (by decide) fun F2 h=> ?_
 refine h.rule1 (ce 1) (by decide) fun F2 h=> ?_
 refine h.rule0 (by decide) fun F2 h=> ?_
 refine h.rule2 (ce 1) (dx 2) (by decide) fun F2 h=> ?_
 refine h.cnd 4 rfl 0 (by decide) fun F2 h=> ?_
 exact h.fin (R:=fun r F'=>(∃w,r=.agg w∧GV F' w jJ)∧F.le F') fun w F' hv hl=>⟨⟨w,rfl,hv⟩,hl⟩
end Go.Proofs.YtenpmjhnhepfdaaGreatDoor
