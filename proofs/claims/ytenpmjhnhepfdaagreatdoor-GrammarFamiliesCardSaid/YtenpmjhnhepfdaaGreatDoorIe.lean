/-
  The six known grammars. Printed by a program (mkIe.py).
-/
import Derived.Test.YtenpmjhnhepfdaaGreatDoorIc
namespace Go.Proofs.YtenpmjhnhepfdaaGreatDoor
open Go Go.Proofs.Tryz Tr
set_option maxRecDepth 10000
theorem St.imp {G F:PH} {As:List (PH→Prop)} (h:St G F As) (i:Nat) {A A':PH→Prop} (hi:As[i]? =some A) (f:∀H,H.le F→A H→A' H):St G F (As.set i A'):=by
 obtain ⟨H,a1,a2,a3,a4⟩:=h.set (A':=A') hi
 exact a4 H F (f H a3 a1) (fun b hb=> .inl hb) a3 fun b o hb _=>hb
def ry:List ByteArray:=[⟨#[43]⟩,⟨#[42]⟩,⟨#[40]⟩,⟨#[41]⟩,⟨#[105,102]⟩,⟨#[101,108,115,101]⟩,⟨#[59]⟩,⟨#[94]⟩]
def jA:Tk:=⟨⟨#[105,100]⟩,0,⟨#[]⟩,[⟨1,97,122,0,0⟩,⟨1,97,122,0,0⟩,⟨4,0,0,1,0⟩,⟨2,0,0,0,2⟩],⟨#[120]⟩,aG⟩
def tkL (x:ByteArray):Tk:=⟨x,0,x,[],⟨#[]⟩,aG⟩
def iC:Tk:=⟨⟨#[115,112,97,99,101]⟩,1,⟨#[]⟩,[⟨1,9,10,0,0⟩,⟨1,32,32,0,0⟩,⟨3,0,0,0,1⟩,⟨1,9,10,0,0⟩,⟨1,32,32,0,0⟩,⟨3,0,0,3,4⟩,⟨4,0,0,5,0⟩,⟨2,0,0,2,6⟩],⟨#[]⟩,aG⟩
def fF:Tk:=⟨⟨#[114,101,109,97,114,107]⟩,2,⟨#[]⟩,[⟨1,37,37,0,0⟩,⟨1,97,122,0,0⟩,⟨1,32,32,0,0⟩,⟨3,0,0,1,2⟩,⟨4,0,0,3,0⟩,⟨2,0,0,0,4⟩],⟨#[]⟩,aG⟩
def eP:List Tk:=jA::ry.map tkL++[iC,fF]
theorem fZ {F:PH} {x:Tk} {p n:Sl} (hp:RL F p x.pat) (hn:RL F n x.cond.1):Mem.rep F x (x.arr p n):=⟨p,n,rfl,hp,hn⟩
theorem lu (F:PH):ae prog 113 #[] F fun r F'=>(∃s,r=Sl.v s∧RL F' s eP)∧F.le F':=by
 obtain ⟨_,_,T⟩:=Jg
 refine Ni ?_
 unfold GT
 refine (St.start F).run (fH _) fun _ G1 F1 hr l1 h=> ?_
 obtain ⟨w,rfl,hw⟩:=hr
 obtain ⟨n,rfl,hn⟩:=hw.out
 refine ⟨_,rfl,?_⟩
 refine h.new fun b1 F2 h=> ?_
 refine h.put0 (w':= #[n.v,vi aG.2]) rfl rfl (by simp [ak,Sl.v]) fun F3 h=> ?_
 refine ⟨_,rfl,h.whole0,rfl,rfl,?_⟩
 refine h.new fun b10 F4 h=> ?_
 refine h.runv (cQ 97 122 _) fun G2 F5 l2 h=> ?_
 refine ⟨_,rfl,?_⟩
 refine h.runv (cQ 97 122 _) fun G3 F6 l3 h=> ?_
 refine ⟨_,rfl,?_⟩
 refine h.runv (bH 4 1 0 _) fun G4 F7 l4 h=> ?_
 refine ⟨_,rfl,?_⟩
 refine h.runv (bH 2 0 2 _) fun G5 F8 l5 h=> ?_
 refine ⟨_,rfl,rfl,rfl,rfl,rfl,?_⟩
 refine h.newG fun b16 G6 F9 l6 q16 _ h=> ?_
 have l16:G1.le G6:=aa l2 (aa l3 (aa l4 (aa l5 l6)))
 have h:=h.imp (A':=own (Sl.mk (some (Addr.mk b10 0 none)) 1 1) 79 7 (cat [Tk.arr ⟨⟨#[105,100]⟩,0,⟨#[]⟩,[],⟨#[120]⟩,aG⟩ Sl.nil n])) 0 rfl fun H _ hH=> .inr ⟨b10,_,rfl,hH,rfl,Nat.le_refl _,rfl,rfl⟩
 refine h.el1 0 rfl (by simp) (c:=Tk.arr ⟨⟨#[105,100]⟩,0,⟨#[]⟩,[],⟨#[120]⟩,aG⟩ Sl.nil n) (k:=0) rfl (by decide) (by decide) fun F10 h=> ?_
 refine h.newG fun b19 G7 F11 l7 q19 _ h=> ?_
 have lt:=aa l16 l7
 have r0:dh G7 [jA] [jA.arr (Sl.mk (some (Addr.mk b16 0 none)) 4 4) n]:=.cons (fZ ⟨[_,_,_,_],.cons rfl (.cons rfl (.cons rfl (.cons rfl .nil))),RdS.new (l7 _ _ q16) rfl rfl (Nat.le_refl _)⟩ (hn.le lt)) .nil
 replace h:St G7 F11 [own (Sl.mk (some (Addr.mk b10 0 none)) 1 1) 79 7 (cat [jA.arr (Sl.mk (some (Addr.mk b16 0 none)) 4 4) n]),pt b1 (.cells #[n.v,vi aG.2] 33)]:=h
 have hl:RL G7 (Sl.mk (some (Addr.mk b19 0 none)) 8 8) ry:=RL.strs.2 (RdS.new q19 rfl rfl (Nat.le_refl _))
 have lF:F.le G7:=aa l1 lt
 refine ⟨fun m out i F'=>∃k:Nat,k≤8∧i=k∧m=8 - k∧out.len=k+1∧∃G vs,G7.le G∧dh G (jA::(ry.take k).map tkL) vs∧St G F' [own out 79 7 (cat vs),pt b1 (.cells #[n.v,vi aG.2] 33)],8,⟨0,by decide,rfl,rfl,rfl,G7,_,le_refl' _,r0,h⟩,?_⟩
 rintro m out i F' ⟨k,hk,rfl,rfl,hlen,G,vs,lG,hr,h⟩
 unfold yo
 refine ⟨fun hi=> ?_,fun hi=> ?_⟩
 ·have hk8:k<8:=by have:(k:Int)<8:=hi;omega
  have hx:ry[k]? =some (ry[k]'hk8):=List.getElem?_eq_getElem hk8
  generalize ry[k]=x at hx
  obtain ⟨a,c,ha,hrow,hc⟩:=hl.get (by decide) hx
  cases hc
  cases ha
  have hcell:∀{F':PH},G7.le F'→F'.cell (Addr.add (Addr.mk b19 0 none) (Int.toNat (k:Int)*1))=some (.string x):=fun hF=>aM (ig hF hrow) rfl
  refine ⟨_,rfl,by omega,hi,x,hcell (aa lG h.le),_,rfl,by omega,hi,x,hcell (aa lG h.le),_,rfl,h.whole1,rfl,rfl,?_⟩
  refine h.push0 T (c:=(tkL x).arr Sl.nil n) rfl (by simp [ak,Sl.v]) (by omega) fun s' G' F2 l' h hl'=> ?_
  refine ⟨h.whole1,hcell (aa lG (aa l' h.le)),hcell (aa lG (aa l' h.le)),8 - (k+1),by omega,k+1,by omega,?_,rfl,by omega,G',vs++[(tkL x).arr Sl.nil n],aa lG l',?_,?_⟩
  ·exact aV (n:=8) hk8 (by decide)
  ·have e:ry.take (k+1)=ry.take k++[x]:=by rw [List.take_add_one,hx];rfl
   rw [e,List.map_append,← List.cons_append]
   exact (hr.le l').append (.cons (fZ (.nil _) (hn.le (aa lt (aa lG l')))) .nil)
  ·rw [dR,dX]
   exact h
 ·have hk8:k=8:=by have:¬(k:Int)<8:=hi;omega
  subst hk8
  unfold yn
  have r9:=hr
  refine h.runv (cQ 9 10 _) fun H1 F1 m1 h=> ?_
  refine ⟨_,rfl,?_⟩
  refine h.runv (cQ 32 32 _) fun H2 F1 m2 h=> ?_
  refine ⟨_,rfl,?_⟩
  refine h.runv (bH 3 0 1 _) fun H3 F1 m3 h=> ?_
  refine ⟨_,rfl,?_⟩
  refine h.runv (cQ 9 10 _) fun H4 F1 m4 h=> ?_
  refine ⟨_,rfl,?_⟩
  refine h.runv (cQ 32 32 _) fun H5 F1 m5 h=> ?_
  refine ⟨_,rfl,?_⟩
  refine h.runv (bH 3 3 4 _) fun H6 F1 m6 h=> ?_
  refine ⟨_,rfl,?_⟩
  refine h.runv (bH 4 5 0 _) fun H7 F1 m7 h=> ?_
  refine ⟨_,rfl,?_⟩
  refine h.runv (bH 2 2 6 _) fun H8 F1 m8 h=> ?_
  refine ⟨_,rfl,rfl,rfl,rfl,rfl,rfl,rfl,rfl,rfl,?_⟩
  refine h.newG fun b47 H9 F1 m9 q47 _ h=> ?_
  refine h.runv (cQ 37 37 _) fun I1 F1 n1 h=> ?_
  refine ⟨_,rfl,?_⟩
  refine h.runv (cQ 97 122 _) fun I2 F1 n2 h=> ?_
  refine ⟨_,rfl,?_⟩
  refine h.runv (cQ 32 32 _) fun I3 F1 n3 h=> ?_
  refine ⟨_,rfl,?_⟩
  refine h.runv (bH 3 1 2 _) fun I4 F1 n4 h=> ?_
  refine ⟨_,rfl,?_⟩
  refine h.runv (bH 4 3 0 _) fun I5 F1 n5 h=> ?_
  refine ⟨_,rfl,?_⟩
  refine h.runv (bH 2 0 4 _) fun I6 F1 n6 h=> ?_
  refine ⟨_,rfl,rfl,rfl,rfl,rfl,rfl,rfl,?_⟩
  refine h.newG fun b54 I7 F1 n7 q54 _ h=> ?_
  refine ⟨_,rfl,h.whole1,rfl,rfl,?_⟩
  refine h.push0 T (c:=iC.arr (Sl.mk (some (Addr.mk b47 0 none)) 8 8) n) rfl (by simp [ak,Sl.v]) (by omega) fun s1 I8 F1 n8 h hl1=> ?_
  refine ⟨_,rfl,h.whole1,rfl,rfl,?_⟩
  refine h.push0 T (c:=fF.arr (Sl.mk (some (Addr.mk b54 0 none)) 6 6) n) rfl (by simp [ak,Sl.v]) (by omega) fun s2 I9 F1 n9 h hl2=> ?_
  obtain ⟨ho,-⟩:=h.ownAt (i:=0) rfl
  have i89:=aa n8 n9
  have i79:=aa n7 i89
  have iH:H9.le I9:=aa n1 (aa n2 (aa n3 (aa n4 (aa n5 (aa n6 i79)))))
  have iG:G.le I9:=aa m1 (aa m2 (aa m3 (aa m4 (aa m5 (aa m6 (aa m7 (aa m8 (aa m9 iH))))))))
  have hn9:=hn.le (aa lt (aa lG iG))
  refine ⟨⟨s2,rfl,vs++[iC.arr (Sl.mk (some (Addr.mk b47 0 none)) 8 8) n]++[fF.arr (Sl.mk (some (Addr.mk b54 0 none)) 6 6) n],?_,?_⟩,aa lF (aa lG (aa iG h.le))⟩
  ·have e:eP=(jA::(ry.take 8).map tkL)++[iC]++[fF]:=rfl
   rw [e]
   have p1:RL I9 (Sl.mk (some (Addr.mk b47 0 none)) 8 8) iC.pat:=RL.nds.2 (RdS.new (iH _ _ q47) rfl rfl (Nat.le_refl _))
   have p2:RL I9 (Sl.mk (some (Addr.mk b54 0 none)) 6 6) fF.pat:=RL.nds.2 (RdS.new (i89 _ _ q54) rfl rfl (Nat.le_refl _))
   exact (((hr.le iG).append (.cons (fZ p1 hn9) .nil)).append (.cons (fZ p2 hn9) .nil)).le h.le
  ·rw [dR,dR,dX,dX]
   exact ho.rd
abbrev dz (nons:List ByteArray):Gr:=⟨[⟨#[65]⟩,⟨#[66]⟩],aG,eP,nons,[],0,[],[]⟩
theorem qr {F:PH} {s:Sl} {nons:List ByteArray} (hs:RL F s nons):ae prog 38 #[s.v] F fun r F'=>(∃c n t,r=.agg ((dz nons).arr c n t s Sl.nil Sl.nil Sl.nil)∧RL F' c (dz nons).conds∧RL F' n aG.1∧RL F' t eP∧RL F' s nons)∧F.le F':=by
 refine OP ?_
 unfold M3
 refine (St.start F).new fun b2 F1 h=> ?_
 refine h.run (fH _) fun _ G1 F1 hr l1 h=> ?_
 obtain ⟨w,rfl,hw⟩:=hr
 obtain ⟨n,rfl,hn⟩:=hw.out
 refine ⟨_,rfl,?_⟩
 refine h.new fun b3 F2 h=> ?_
 refine h.put0 (w':= #[n.v,vi aG.2]) rfl rfl (by simp [ak,Sl.v]) fun F3 h=> ?_
 refine ⟨_,rfl,h.whole0,?_,?_⟩
 ·refine h.newG fun b5 G2 F4 l2 q _ h=> ?_
  refine h.run (lu _) fun _ G3 F5 hr l3 h=> ?_
  obtain ⟨t,rfl,ht⟩:=hr
  refine ⟨_,rfl,h.whole0,rfl,?_⟩
  refine h.put1 (w':=(dz nons).arr (Sl.mk (some (Addr.mk b5 0 none)) 2 2) n t s Sl.nil Sl.nil Sl.nil) rfl rfl (by simp [ak,Sl.v]) fun F3 h=> ?_
  have l23:=aa l2 l3
  exact ⟨_,rfl,h.whole1,⟨_,n,t,rfl,RL.strs.2 (RdS.new (h.le _ _ (l3 _ _ q)) rfl rfl (Nat.le_refl _)),hn.le (aa l23 h.le),ht.le h.le,hs.le (aa l1 (aa l23 h.le))⟩,aa l1 (aa l23 h.le)⟩
 ·refine h.run (lu _) fun _ G3 F5 hr l3 h=> ?_
  obtain ⟨t,rfl,ht⟩:=hr
  refine ⟨_,rfl,h.whole0,?_⟩
  refine h.newG fun b5 G2 F4 l2 q _ h=> ?_
  refine ⟨rfl,?_⟩
  refine h.put1 (w':=(dz nons).arr (Sl.mk (some (Addr.mk b5 0 none)) 2 2) n t s Sl.nil Sl.nil Sl.nil) rfl rfl (by simp [ak,Sl.v]) fun F3 h=> ?_
  have l23:=aa l3 l2
  exact ⟨_,rfl,h.whole1,⟨_,n,t,rfl,RL.strs.2 (RdS.new (h.le _ _ q) rfl rfl (Nat.le_refl _)),hn.le (aa l23 h.le),ht.le (aa l2 h.le),hs.le (aa l1 (aa l23 h.le))⟩,aa l1 (aa l23 h.le)⟩
theorem fG (F:PH) {arr:Array Value} {k:Nat} (nons:List ByteArray) (ha:arr.toList=nons.map Value.string) (hk:nons.length=k) {C:Nat→Nat→PH→Prop} (kk:∀b0 b1 F',KS F F' b0 b1 (dz nons)→C b0 b1 F'):
  ∀b0,F b0=none→atF (F.set b0 (.cells zG 39)) fun F=>∀b3,F b3=none→atF (F.set b3 (.cells arr 9)) fun F=>ae prog 38 #[Sl.v (Sl.mk (some (Addr.mk b3 0 none)) k k)] F fun v F=>∃w:Array Value,v=.agg w∧
   ∀b1,F b1=none→atF (F.set b1 (.cells zG 39)) fun F=>aB F (Addr.mk b1 0 none) 9 w (C b0 b1):=by
 refine (St.start F).new fun b0 F1 h=> ?_
 refine h.newG fun b3 G1 F2 l1 q _ h=> ?_
 have hs:RL G1 (Sl.mk (some (Addr.mk b3 0 none)) k k) nons:=RL.strs.2 (RdS.new q (by rw [Nat.mul_one,← hk,← List.length_map (f:=Value.string),← ha];exact List.take_length) (by rw [List.length_map];omega) (Nat.le_refl _))
 refine h.run (qr hs) fun _ G2 F3 hr l2 h=> ?_
 obtain ⟨c,n,t,rfl,h1,h2,h3,h4⟩:=hr
 refine ⟨_,rfl,?_⟩
 refine h.new fun b1 F4 h=> ?_
 refine h.put0 (w':=(dz nons).arr c n t (Sl.mk (some (Addr.mk b3 0 none)) k k) Sl.nil Sl.nil Sl.nil) rfl rfl (by simp [ak,Sl.v]) fun F5 h=> ?_
 have h:=(h.nilOwn 67 13).swap
 exact kk _ _ _ ⟨G2,c,n,t,_,Sl.nil,Sl.nil,Sl.nil,[],aa l1 l2,h,.nil,h1,h2,h3,h4,.nil _,.nil _⟩
theorem KS.allv {K F:PH} {b0 b1:Nat} {g:Gr} (h:KS K F b0 b1 g) {C:Nat→PH→Prop} (k:∀b K' F' n,K.le K'→K' b=some (.cells #[Sl.v n,vi aG.2] 33)→RL K' n aG.1→KS K' F' b0 b1 g→C b F'):
  ae prog 89 #[.bool true] F fun v F=>∃w:Array Value,v=.agg w∧∀b,F b=none→atF (F.set b (.cells #[.slice none 0 0,.int .i64 0] 33)) fun F=>aB F (Addr.mk b 0 none) 2 w (C b):=by
 refine h.run (fun G _=>fH G) fun _ K1 F1 hr l1 h=> ?_
 obtain ⟨w,rfl,hw⟩:=hr
 obtain ⟨n,rfl,hn⟩:=hw.out
 refine ⟨_,rfl,?_⟩
 obtain ⟨G,c,n',t,s,sp,l,f,vs,h⟩:=h
 refine h.st.new fun b F2 st=> ?_
 refine st.put0 (w':= #[n.v,vi aG.2]) rfl rfl (by simp [ak,Sl.v]) fun F3 st=> ?_
 refine st.pinb fun G' l2 q st=> ?_
 have l3:=aa h.k l2
 exact k b G' F3 n (aa l1 l3) q (hn.le l3) ⟨G',c,n',t,s,sp,l,f,vs,le_refl' _,st,h.r.le l2,h.c.le l2,h.n.le l2,h.t.le l2,h.s.le l2,h.l.le l2,h.f.le l2⟩
noncomputable abbrev cH (v:Nat):Dia:=dia (ap2 im (tv v) (leaf true))
theorem aZ {F:PH} {v:Array Value} {x:Nat} (hx:x<6) (h:DV F v (dia (tv x))):ae prog 97 #[.agg v] F fun r F'=>rA (cH x) r F'∧F.le F':=
 (oU h ((Sx.tv (n:=6) hx (by decide)).f2 (Sx.leaf 6 true) (by decide))).mono fun _ _ ⟨w,h1,h2,h3⟩=>⟨⟨w,h1,h2⟩,h3⟩
noncomputable def cP:Gr:={(dz [⟨#[69]⟩]) with prods:=[aX ⟨#[97,100,100]⟩ 0 [⟨false,0⟩,⟨true,1⟩,⟨false,0⟩],aX ⟨#[109,117,108]⟩ 0 [⟨false,0⟩,⟨true,2⟩,⟨false,0⟩],{(aX ⟨#[98,114,97,99,107,101,116]⟩ 0 [⟨true,3⟩,⟨false,0⟩,⟨true,4⟩]) with brk:=true},aX ⟨#[110,97,109,101]⟩ 0 [⟨true,0⟩],{(aX ⟨#[112,111,119]⟩ 0 [⟨false,0⟩,⟨true,8⟩,⟨false,0⟩]) with cond:=dia (tv 1)}],lvs:=[⟨[4],2,aG⟩,⟨[1],1,aG⟩,⟨[0],1,cH 0⟩]}
noncomputable def cj:Gr:={(dz [⟨#[83]⟩,⟨#[67]⟩]) with prods:=[aX ⟨#[98,111,116,104]⟩ 0 [⟨true,5⟩,⟨false,1⟩,⟨false,0⟩,⟨true,6⟩,⟨false,0⟩],aX ⟨#[116,104,101,110]⟩ 0 [⟨true,5⟩,⟨false,1⟩,⟨false,0⟩],aX ⟨#[99,97,108,108]⟩ 0 [⟨false,1⟩,⟨true,7⟩],{(aX ⟨#[98,108,111,99,107]⟩ 0 [⟨true,3⟩,⟨false,0⟩,⟨true,4⟩]) with brk:=true},aX ⟨#[119,111,114,100]⟩ 1 [⟨true,0⟩]],fils:=[⟨2,0,2,1,0,0,[],dia (tv 0)⟩,⟨5,0,0,0,0,0,[5,6],dia (tv 1)⟩]}
noncomputable def dV:Gr:={(dz [⟨#[76]⟩,⟨#[73]⟩]) with prods:=[aX ⟨#[101,109,112,116,121]⟩ 0 [],aX ⟨#[109,111,114,101]⟩ 0 [⟨false,0⟩,⟨false,1⟩],{(aX ⟨#[116,121,112,101]⟩ 1 [⟨true,1⟩,⟨true,0⟩,⟨true,7⟩]) with sco:=⟨false,2,1,0,0⟩},{(aX ⟨#[112,111,105,110,116,101,114]⟩ 1 [⟨true,0⟩,⟨true,2⟩,⟨true,0⟩,⟨true,7⟩]) with sco:=⟨false,3,2,1,2⟩},{(aX ⟨#[112,114,111,100,117,99,116]⟩ 1 [⟨true,0⟩,⟨true,2⟩,⟨true,0⟩,⟨true,7⟩]) with sco:=⟨false,0,0,1,5⟩,rank:= -1},{(aX ⟨#[105,110,110,101,114]⟩ 1 [⟨true,3⟩,⟨false,0⟩,⟨true,4⟩]) with sco:=⟨true,0,0,0,0⟩},{(aX ⟨#[115,116,114,105,99,116]⟩ 1 [⟨true,0⟩,⟨true,7⟩]) with sco:=⟨false,0,0,1,6⟩,cond:=dia (tv 0)}]}
noncomputable def ma:Gr:={(dz [⟨#[66]⟩,⟨#[73]⟩]) with prods:=[aX ⟨#[111,110,101]⟩ 0 [⟨false,1⟩],{(aX ⟨#[108,105,115,116]⟩ 0 [⟨false,0⟩,⟨false,1⟩]) with lay:=[⟨2,0,1⟩]},aX ⟨#[119,111,114,100]⟩ 1 [⟨true,0⟩],{(aX ⟨#[104,101,97,100]⟩ 1 [⟨true,5⟩,⟨true,0⟩,⟨false,0⟩]) with lay:=[⟨3,0,2⟩,⟨1,2,0⟩]},{(aX ⟨#[108,105,110,101]⟩ 1 [⟨true,5⟩,⟨false,0⟩]) with lay:=[⟨4,0,1⟩],cond:=dia (tv 0)}]}
noncomputable def jB:Gr:={(dz [⟨#[83]⟩,⟨#[87]⟩,⟨#[86]⟩]) with prods:=[aX ⟨#[112,97,105,114]⟩ 0 [⟨false,1⟩,⟨false,2⟩],{(aX ⟨#[115,105,110,103,108,101]⟩ 1 [⟨true,0⟩]) with rank:= -1},aX ⟨#[100,111,117,98,108,101]⟩ 1 [⟨true,0⟩,⟨true,0⟩],aX ⟨#[110,111,110,101]⟩ 2 [],aX ⟨#[110,101,120,116]⟩ 2 [⟨true,0⟩,⟨false,2⟩],{(aX ⟨#[109,97,114,107]⟩ 2 [⟨true,1⟩,⟨false,2⟩]) with cond:=dia (tv 1)}],fils:=[⟨3,0,0,0,1,0,[0],dia (tv 0)⟩,⟨4,0,0,0,2,0,[1],cH 1⟩]}
noncomputable def jC:Gr:={(dz [⟨#[83]⟩,⟨#[79]⟩,⟨#[80]⟩]) with prods:=[aX ⟨#[97,108,108]⟩ 0 [⟨false,1⟩,⟨true,0⟩,⟨false,1⟩,⟨false,2⟩],aX ⟨#[110,111]⟩ 1 [],aX ⟨#[121,101,115]⟩ 1 [⟨true,1⟩],aX ⟨#[101,110,100]⟩ 2 [],{(aX ⟨#[114,101,115,116]⟩ 2 [⟨true,1⟩,⟨false,2⟩]) with cond:=dia (tv 0)}]}
theorem jD (F:PH):ae prog 109 #[] F fun r F'=>(∃w,r=.agg w∧GV F' w dV)∧F.le F':=by
 refine Nc ?_
 unfold GO
 refine fG F [⟨#[76]⟩,⟨#[73]⟩] rfl rfl fun b0 b1 F1 h=> ?_
 refine h.rule0 (by decide) fun F2 h=> ?_
 refine h.rule2 (dv 0) (dv 1) (by decide) fun F2 h=> ?_
 refine h.rule3 (cf 1) (cf 0) (cf 7) (by decide) fun F2 h=> ?_
 refine h.rule4 (cf 0) (cf 2) (cf 0) (cf 7) (by decide) fun F2 h=> ?_
 refine h.rule4 (cf 0) (cf 2) (cf 0) (cf 7) (by decide) fun F2 h=> ?_
 refine h.rule3 (cf 3) (dv 0) (cf 4) (by decide) fun F2 h=> ?_
 refine h.rule2 (cf 0) (cf 7) (by decide) fun F2 h=> ?_
 refine h.sco 2 rfl fun F2 h=> ?_
 refine h.sco 3 rfl fun F2 h=> ?_
 refine h.sco 4 rfl fun F2 h=> ?_
 refine h.sco 5 rfl fun F2 h=> ?_
 refine h.sco 6 rfl fun F2 h=> ?_
 refine h.rank 4 rfl fun F2 h=> ?_
 refine h.cnd 6 rfl 0 (by decide) fun F2 h=> ?_
 exact h.fin (R:=fun r F'=>(∃w,r=.agg w∧GV F' w dV)∧F.le F') fun w F' hv hl=>⟨⟨w,rfl,hv⟩,hl⟩
theorem tK (F:PH):ae prog 110 #[] F fun r F'=>(∃w,r=.agg w∧GV F' w ma)∧F.le F':=by
 refine Nf ?_
 unfold GP
 refine fG F [⟨#[66]⟩,⟨#[73]⟩] rfl rfl fun b0 b1 F1 h=> ?_
 refine h.rule1 (dv 1) (by decide) fun F2 h=> ?_
 refine h.rule2 (dv 0) (dv 1) (by decide) fun F2 h=> ?_
 refine h.rule1 (cf 0) (by decide) fun F2 h=> ?_
 refine h.rule3 (cf 5) (cf 0) (dv 0) (by decide) fun F2 h=> ?_
 refine h.rule2 (cf 5) (dv 0) (by decide) fun F2 h=> ?_
 refine h.lay1 1 rfl fun F2 h=> ?_
 refine h.lay2 3 rfl fun F2 h=> ?_
 refine h.lay1 4 rfl fun F2 h=> ?_
 refine h.cnd 4 rfl 0 (by decide) fun F2 h=> ?_
 exact h.fin (R:=fun r F'=>(∃w,r=.agg w∧GV F' w ma)∧F.le F') fun w F' hv hl=>⟨⟨w,rfl,hv⟩,hl⟩
theorem rz (F:PH):ae prog 112 #[] F fun r F'=>(∃w,r=.agg w∧GV F' w jC)∧F.le F':=by
 refine Nh ?_
 unfold GR
 refine fG F [⟨#[83]⟩,⟨#[79]⟩,⟨#[80]⟩] rfl rfl fun b0 b1 F1 h=> ?_
 refine h.rule4 (dv 1) (cf 0) (dv 1) (dv 2) (by decide) fun F2 h=> ?_
 refine h.rule0 (by decide) fun F2 h=> ?_
 refine h.rule1 (cf 1) (by decide) fun F2 h=> ?_
 refine h.rule0 (by decide) fun F2 h=> ?_
 refine h.rule2 (cf 1) (dv 2) (by decide) fun F2 h=> ?_
 refine h.cnd 4 rfl 0 (by decide) fun F2 h=> ?_
 exact h.fin (R:=fun r F'=>(∃w,r=.agg w∧GV F' w jC)∧F.le F') fun w F' hv hl=>⟨⟨w,rfl,hv⟩,hl⟩
end Go.Proofs.YtenpmjhnhepfdaaGreatDoor
