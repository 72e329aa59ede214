/-
  Derivations in one configuration, and the least sets that are closed under productions.
-/
import Derived.Test.YteilolbbgieadaaGreatDoorIc
set_option maxRecDepth 10000
open Option renaming some->V,none->I
open Go.Obj renaming cells->Y
open Bool renaming false->mz,true->mY
open Go.Value renaming agg->nL,bool->nS,int->ru,string->pe,tuple->pk
open Go.Addr renaming add->nR,mk->ou
open Int renaming toNat->nT,tmod->sq
open Array renaming setIfInBounds->rV
noncomputable section
namespace Go.Proofs.YteilolbbgieadaaGreatDoor
open Go.IntKind (i64 u8 u64)
open Sl renaming v->nE,nil->pi,mk->ua
open Go Go.Proofs.Tryz Tr
theorem St.imp {G F:PH} {As:List (Ψ)} (h:St G F As) (i:Nat) {A A':Ψ} (hi:As[i]? =V A) (f:∀H,H.le F->A H->A' H):St G F (As.set i A'):=by obtain ⟨H,B,C,r,w⟩:=h.set (A':=A') hi;exact w H F (f H r B) (λb g=> .inl g) r λb o g _=>g
def wj:List ο:=[⟨#[43]⟩,⟨#[42]⟩,⟨#[40]⟩,⟨#[41]⟩,⟨#[105,102]⟩,⟨#[101,108,115,101]⟩,⟨#[59]⟩,⟨#[94]⟩]
def lU:Tk:=⟨⟨#[105,100]⟩,0,⟨#[]⟩,[⟨1,97,122,0,0⟩,⟨1,97,122,0,0⟩,⟨4,0,0,1,0⟩,⟨2,0,0,0,2⟩],⟨#[120]⟩,dx⟩
def YN (x:ο):Tk:=⟨x,0,x,[],⟨#[]⟩,dx⟩
def jC:Tk:=⟨⟨#[115,112,97,99,101]⟩,1,⟨#[]⟩,[⟨1,9,10,0,0⟩,⟨1,32,32,0,0⟩,⟨3,0,0,0,1⟩,⟨1,9,10,0,0⟩,⟨1,32,32,0,0⟩,⟨3,0,0,3,4⟩,⟨4,0,0,5,0⟩,⟨2,0,0,2,6⟩],⟨#[]⟩,dx⟩
def gK:Tk:=⟨⟨#[114,101,109,97,114,107]⟩,2,⟨#[]⟩,[⟨1,37,37,0,0⟩,⟨1,97,122,0,0⟩,⟨1,32,32,0,0⟩,⟨3,0,0,1,2⟩,⟨4,0,0,3,0⟩,⟨2,0,0,0,4⟩],⟨#[]⟩,dx⟩
def eX:List Tk:=lU::wj.map YN++[jC,gK]
theorem pP {F:PH} {x:Tk} {p n:Sl} (g:RL F p x.pat) (h:RL F n x.cond.1):Mem.rep F x (x.arr p n):=⟨p,n,rfl,g,h⟩
theorem oD (F:PH):ν 86 #[] F λr D=>(∃s,r=nE s/\RL D s eX)/\F.le D:=by
 obtain ⟨_,_,T⟩:=Wa;refine aac ?_;unfold Wj;refine (St.start F).run (gS _) λ_ G1 A P l1 h=> ?_;obtain ⟨w,rfl,hw⟩:=P;obtain ⟨n,rfl,hn⟩:=hw.out;refine ⟨_,rfl,?_⟩;refine h.new λb1 F2 h=> ?_;refine h.put0 (w':= #[n.v,U dx.2]) rfl rfl (by simp [ak,nE]) λF3 h=> ?_;refine ⟨_,rfl,h.whole0,rfl,rfl,?_⟩;refine h.new λL F4 h=> ?_;refine h.runv (dq 97 122 _) λG2 F5 l2 h=> ?_;refine ⟨_,rfl,?_⟩;refine h.runv (dq 97 122 _) λG3 F6 l3 h=> ?_;refine ⟨_,rfl,?_⟩;refine h.runv (cd 4 1 0 _) λG4 F7 l4 h=> ?_;refine ⟨_,rfl,?_⟩;refine h.runv (cd 2 0 2 _) λG5 F8 l5 h=> ?_;refine ⟨_,rfl,rfl,rfl,rfl,rfl,?_⟩;refine h.newG λW G6 F9 l6 a5 _ h=> ?_;have a2:G1.le G6:=aa l2 (aa l3 (aa l4 (aa l5 l6)));have h:=h.imp (A':=own (ua (V (ou L 0 I)) 1 1) 166 7 (tZ [Tk.arr ⟨⟨#[105,100]⟩,0,⟨#[]⟩,[],⟨#[120]⟩,dx⟩ pi n])) 0 rfl λH _ hH=> .inr ⟨L,_,rfl,hH,rfl,qX _,rfl,rfl⟩;refine h.el1 0 rfl (by simp) (c:=Tk.arr ⟨⟨#[105,100]⟩,0,⟨#[]⟩,[],⟨#[120]⟩,dx⟩ pi n) (k:=0) rfl (by decide) (by decide) λa8 h=> ?_;refine h.newG λR E a1 l7 a6 _ h=> ?_;have lt:=aa a2 l7;have r0:bS E [lU] [lU.arr (ua (V (ou W 0 I)) 4 4) n]:=.cons (pP ⟨[_,_,_,_],.cons rfl (.cons rfl (.cons rfl (.cons rfl .nil))),RdS.new (l7 _ _ a5) rfl rfl (qX _)⟩ (hn.le lt)) .nil;replace h:St E a1 [own (ua (V (ou L 0 I)) 1 1) 166 7 (tZ [lU.arr (ua (V (ou W 0 I)) 4 4) n]),pt b1 (Y #[n.v,U dx.2] 33)]:=h;have hl:RL E (ua (V (ou R 0 I)) 8 8) wj:=RL.strs.2 (RdS.new a6 rfl rfl (qX _));have lF:F.le E:=aa l1 lt;refine ⟨λm out i D=>∃k:Nat,k<=8/\i=k/\m=8 - k/\out.len=k+1/\∃G vs,E.le G/\bS G (lU::(wj.take k).map YN) vs/\St G D [own out 166 7 (tZ vs),pt b1 (Y #[n.v,U dx.2] 33)],8,⟨0,by decide,rfl,rfl,rfl,E,_,au _,r0,h⟩,?_⟩;rintro m out i D ⟨k,hk,rfl,rfl,a7,G,vs,C,P,h⟩;unfold Jq;refine ⟨λhi=> ?_,λhi=> ?_⟩
 ·have B:k<8:=by have:(k:Int)<8:=hi;omega
  have hx:wj[k]? =V (wj[k]' B):=N5 B;generalize wj[k]=x at hx;obtain ⟨a,c,ha,N,hc⟩:=hl.get (by decide) hx;cases hc;cases ha;have g:∀{D:PH},E.le D->D.cell (nR (ou R 0 I) (nT (k:Int)*1))=V (pe x):=λhF=>aE (aN hF N) rfl;refine ⟨_,rfl,by omega,hi,x,g (aa C h.le),_,rfl,by omega,hi,x,g (aa C h.le),_,rfl,h.whole1,rfl,rfl,?_⟩;refine h.push0 T (c:=(YN x).arr pi n) rfl (by simp [ak,nE]) (by omega) λs' G' F2 O h b0=> ?_;refine ⟨h.whole1,g (aa C (aa O h.le)),g (aa C (aa O h.le)),8 - (k+1),by omega,k+1,by omega,?_,rfl,by omega,G',vs++[(YN x).arr pi n],aa C O,?_,?_⟩
  ·exact aC (n:=8) B (by decide)
  ·have e:wj.take (k+1)=wj.take k++[x]:=by rw [Wv,hx];rfl
   rw [e,yT,<- zK];exact (P.le O).append (.cons (pP (.nil _) (hn.le (aa lt (aa C O)))) .nil)
  ·rw [ba,cI];exact h
 ·have B:k=8:=by have:¬(k:Int)<8:=hi;omega
  subst B;unfold Jp;have r9:=P;refine h.runv (dq 9 10 _) λH1 A m1 h=> ?_;refine ⟨_,rfl,?_⟩;refine h.runv (dq 32 32 _) λH2 A m2 h=> ?_;refine ⟨_,rfl,?_⟩;refine h.runv (cd 3 0 1 _) λH3 A m3 h=> ?_;refine ⟨_,rfl,?_⟩;refine h.runv (dq 9 10 _) λH4 A m4 h=> ?_;refine ⟨_,rfl,?_⟩;refine h.runv (dq 32 32 _) λH5 A m5 h=> ?_;refine ⟨_,rfl,?_⟩;refine h.runv (cd 3 3 4 _) λH6 A m6 h=> ?_;refine ⟨_,rfl,?_⟩;refine h.runv (cd 4 5 0 _) λH7 A m7 h=> ?_;refine ⟨_,rfl,?_⟩;refine h.runv (cd 2 2 6 _) λH8 A m8 h=> ?_;refine ⟨_,rfl,rfl,rfl,rfl,rfl,rfl,rfl,rfl,rfl,?_⟩;refine h.newG λK H9 A m9 a3 _ h=> ?_;refine h.runv (dq 37 37 _) λI1 A n1 h=> ?_;refine ⟨_,rfl,?_⟩;refine h.runv (dq 97 122 _) λI2 A n2 h=> ?_;refine ⟨_,rfl,?_⟩;refine h.runv (dq 32 32 _) λI3 A n3 h=> ?_;refine ⟨_,rfl,?_⟩;refine h.runv (cd 3 1 2 _) λI4 A n4 h=> ?_;refine ⟨_,rfl,?_⟩;refine h.runv (cd 4 3 0 _) λI5 A n5 h=> ?_;refine ⟨_,rfl,?_⟩;refine h.runv (cd 2 0 4 _) λI6 A n6 h=> ?_;refine ⟨_,rfl,rfl,rfl,rfl,rfl,rfl,rfl,?_⟩;refine h.newG λJ I7 A n7 a0 _ h=> ?_;refine ⟨_,rfl,h.whole1,rfl,rfl,?_⟩;refine h.push0 T (c:=jC.arr (ua (V (ou K 0 I)) 8 8) n) rfl (by simp [ak,nE]) (by omega) λs1 I8 A n8 h a9=> ?_;refine ⟨_,rfl,h.whole1,rfl,rfl,?_⟩;refine h.push0 T (c:=gK.arr (ua (V (ou J 0 I)) 6 6) n) rfl (by simp [ak,nE]) (by omega) λs2 X A n9 h b2=> ?_;obtain ⟨ho,-⟩:=h.ownAt (i:=0) rfl;have Q:=aa n8 n9;have a4:=aa n7 Q;have iH:H9.le X:=aa n1 (aa n2 (aa n3 (aa n4 (aa n5 (aa n6 a4)))));have iG:G.le X:=aa m1 (aa m2 (aa m3 (aa m4 (aa m5 (aa m6 (aa m7 (aa m8 (aa m9 iH))))))));have M:=hn.le (aa lt (aa C iG));refine ⟨⟨s2,rfl,vs++[jC.arr (ua (V (ou K 0 I)) 8 8) n]++[gK.arr (ua (V (ou J 0 I)) 6 6) n],?_,?_⟩,aa lF (aa C (aa iG h.le))⟩
  ·have e:eX=(lU::(wj.take 8).map YN)++[jC]++[gK]:=rfl;rw [e];have p1:RL X (ua (V (ou K 0 I)) 8 8) jC.pat:=RL.nds.2 (RdS.new (iH _ _ a3) rfl rfl (qX _));have p2:RL X (ua (V (ou J 0 I)) 6 6) gK.pat:=RL.nds.2 (RdS.new (Q _ _ a0) rfl rfl (qX _));exact (((P.le iG).append (.cons (pP p1 M) .nil)).append (.cons (pP p2 M) .nil)).le h.le
  ·rw [ba,ba,cI,cI];exact ho.rd
abbrev dZ (qa1:List ByteArray):Gr:=⟨[⟨#[65]⟩,⟨#[66]⟩],dx,eX,qa1,[],0,[],[]⟩
theorem uv {F:PH} {s:Sl} {A:List ο} (L:RL F s A):ν 52 #[s.v] F λr C=>(∃c n t,r=nL ((dZ A).arr c n t s pi pi pi)/\RL C c (dZ A).qa4/\RL C n dx.1/\RL C t eX/\RL C s A)/\F.le C:=by
 refine qgc ?_;unfold Wd;refine (St.start F).new λb2 O h=> ?_;refine h.run (gS _) λ_ G1 O B D h=> ?_;obtain ⟨w,rfl,Q⟩:=B;obtain ⟨n,rfl,M⟩:=Q.out;refine ⟨_,rfl,?_⟩;refine h.new λX F2 h=> ?_;refine h.put0 (w':= #[n.v,U dx.2]) rfl rfl (by simp [ak,nE]) λK h=> ?_;refine ⟨_,rfl,h.whole0,?_,?_⟩
 ·refine h.newG λH R W E q _ h=> ?_;refine h.run (oD _) λ_ P N B G h=> ?_;obtain ⟨t,rfl,J⟩:=B;refine ⟨_,rfl,h.whole0,rfl,?_⟩;refine h.put1 (w':=(dZ A).arr (ua (V (ou H 0 I)) 2 2) n t s pi pi pi) rfl rfl (by simp [ak,nE]) λK h=> ?_;have g:=aa E G;exact ⟨_,rfl,h.whole1,⟨_,n,t,rfl,RL.strs.2 (RdS.new (h.le _ _ (G _ _ q)) rfl rfl (qX _)),M.le (aa g h.le),J.le h.le,L.le (aa D (aa g h.le))⟩,aa D (aa g h.le)⟩
 ·refine h.run (oD _) λ_ P N B G h=> ?_;obtain ⟨t,rfl,J⟩:=B;refine ⟨_,rfl,h.whole0,?_⟩;refine h.newG λH R W E q _ h=> ?_;refine ⟨rfl,?_⟩;refine h.put1 (w':=(dZ A).arr (ua (V (ou H 0 I)) 2 2) n t s pi pi pi) rfl rfl (by simp [ak,nE]) λK h=> ?_;have g:=aa G E;exact ⟨_,rfl,h.whole1,⟨_,n,t,rfl,RL.strs.2 (RdS.new (h.le _ _ q) rfl rfl (qX _)),M.le (aa g h.le),J.le (aa E h.le),L.le (aa D (aa g h.le))⟩,aa D (aa g h.le)⟩
theorem gL (F:PH) {arr:Γ} {k:Nat} (g:List ο) (L:arr.toList=g.map pe) (O:g.length=k) {C:Nat->Nat->Ψ} (W:∀A r D,KS F D A r (dZ g)->C A r D):
  ∀A,F A=I->xG (F.set A (Y zG 39)) λF=>∀B,F B=I->xG (F.set B (Y arr 9)) λF=>ν 52 #[nE (ua (V (ou B 0 I)) k k)] F λv F=>∃w:Γ,v=nL w/\
   ∀r,F r=I->xG (F.set r (Y zG 39)) λF=>aA F (ou r 0 I) 9 w (C A r):=by
 refine (St.start F).new λA F1 h=> ?_;refine h.newG λB Q F2 G q _ h=> ?_;have M:RL Q (ua (V (ou B 0 I)) k k) g:=RL.strs.2 (RdS.new q (by rw [xB,<- O,<- ub (f:=pe),<- L];exact wy) (by rw [ub];omega) (qX _));refine h.run (uv M) λ_ N F3 K J h=> ?_;obtain ⟨c,n,t,rfl,P,E,R,H⟩:=K;refine ⟨_,rfl,?_⟩;refine h.new λr F4 h=> ?_;refine h.put0 (w':=(dZ g).arr c n t (ua (V (ou B 0 I)) k k) pi pi pi) rfl rfl (by simp [ak,nE]) λX h=> ?_;have h:=(h.nilOwn 64 13).swap;exact W _ _ _ ⟨N,c,n,t,_,pi,pi,pi,[],aa G J,h,.nil,P,E,R,H,.nil _,.nil _⟩
theorem KS.allv {K F:PH} {E L:Nat} {g:Gr} (h:KS K F E L g) {C:Nat->Ψ} (k:∀b B J n,K.le B->B b=V (Y #[nE n,U dx.2] 33)->RL B n dx.1->KS B J E L g->C b J):
  ν 85 #[nS mY] F λv F=>∃w:Γ,v=nL w/\∀b,F b=I->xG (F.set b (Y #[.slice I 0 0,.int .i64 0] 33)) λF=>aA F (ou b 0 I) 2 w (C b):=by
 refine h.run (λG _=>gS G) λ_ X F1 Q P h=> ?_;obtain ⟨w,rfl,O⟩:=Q;obtain ⟨n,rfl,M⟩:=O.out;refine ⟨_,rfl,?_⟩;obtain ⟨G,c,R,t,s,W,l,f,vs,h⟩:=h;refine h.st.new λb F2 st=> ?_;refine st.put0 (w':= #[n.v,U dx.2]) rfl rfl (by simp [ak,nE]) λN st=> ?_;refine st.pinb λH A q st=> ?_;have D:=aa h.k A;exact k b H N n (aa P D) q (M.le D) ⟨H,c,R,t,s,W,l,f,vs,au _,st,h.r.le A,h.c.le A,h.n.le A,h.t.le A,h.s.le A,h.l.le A,h.f.le A⟩
abbrev yQ (v:Nat):vE:=pg (ap2 lj (tv v) (qa6 mY))
theorem nK {F:PH} {v:Γ} {x:Nat} (D:x<6) (h:DV F v (pg (tv x))):ν 157 #[nL v] F λr g=>B3 (yQ x) r g/\F.le g:=
 (sW h ((Sx.tv (n:=6) D (by decide)).f2 (Sx.qa6 6 mY) (by decide))).mono λ_ _ ⟨w,B,A,C⟩=>⟨⟨w,B,A⟩,C⟩
def bZ:Gr:={(dZ [⟨#[69]⟩]) with qa0:=[bz ⟨#[97,100,100]⟩ 0 [⟨mz,0⟩,⟨mY,1⟩,⟨mz,0⟩],bz ⟨#[109,117,108]⟩ 0 [⟨mz,0⟩,⟨mY,2⟩,⟨mz,0⟩],{(bz ⟨#[98,114,97,99,107,101,116]⟩ 0 [⟨mY,3⟩,⟨mz,0⟩,⟨mY,4⟩]) with brk:=mY},bz ⟨#[110,97,109,101]⟩ 0 [⟨mY,0⟩],{(bz ⟨#[112,111,119]⟩ 0 [⟨mz,0⟩,⟨mY,8⟩,⟨mz,0⟩]) with cond:=pg (tv 1)}],lvs:=[⟨[4],2,dx⟩,⟨[1],1,dx⟩,⟨[0],1,yQ 0⟩]}
def bQ:Gr:={(dZ [⟨#[83]⟩,⟨#[67]⟩]) with qa0:=[bz ⟨#[98,111,116,104]⟩ 0 [⟨mY,5⟩,⟨mz,1⟩,⟨mz,0⟩,⟨mY,6⟩,⟨mz,0⟩],bz ⟨#[116,104,101,110]⟩ 0 [⟨mY,5⟩,⟨mz,1⟩,⟨mz,0⟩],bz ⟨#[99,97,108,108]⟩ 0 [⟨mz,1⟩,⟨mY,7⟩],{(bz ⟨#[98,108,111,99,107]⟩ 0 [⟨mY,3⟩,⟨mz,0⟩,⟨mY,4⟩]) with brk:=mY},bz ⟨#[119,111,114,100]⟩ 1 [⟨mY,0⟩]],fils:=[⟨2,0,2,1,0,0,[],pg (tv 0)⟩,⟨5,0,0,0,0,0,[5,6],pg (tv 1)⟩]}
def aQ:Gr:={(dZ [⟨#[76]⟩,⟨#[73]⟩]) with qa0:=[bz ⟨#[101,109,112,116,121]⟩ 0 [],bz ⟨#[109,111,114,101]⟩ 0 [⟨mz,0⟩,⟨mz,1⟩],{(bz ⟨#[116,121,112,101]⟩ 1 [⟨mY,1⟩,⟨mY,0⟩,⟨mY,7⟩]) with sco:=⟨mz,2,1,0,0⟩},{(bz ⟨#[112,111,105,110,116,101,114]⟩ 1 [⟨mY,0⟩,⟨mY,2⟩,⟨mY,0⟩,⟨mY,7⟩]) with sco:=⟨mz,3,2,1,2⟩},{(bz ⟨#[112,114,111,100,117,99,116]⟩ 1 [⟨mY,0⟩,⟨mY,2⟩,⟨mY,0⟩,⟨mY,7⟩]) with sco:=⟨mz,0,0,1,5⟩,rank:= -1},{(bz ⟨#[105,110,110,101,114]⟩ 1 [⟨mY,3⟩,⟨mz,0⟩,⟨mY,4⟩]) with sco:=⟨mY,0,0,0,0⟩},{(bz ⟨#[115,116,114,105,99,116]⟩ 1 [⟨mY,0⟩,⟨mY,7⟩]) with sco:=⟨mz,0,0,1,6⟩,cond:=pg (tv 0)}]}
def ik:Gr:={(dZ [⟨#[66]⟩,⟨#[73]⟩]) with qa0:=[bz ⟨#[111,110,101]⟩ 0 [⟨mz,1⟩],{(bz ⟨#[108,105,115,116]⟩ 0 [⟨mz,0⟩,⟨mz,1⟩]) with lay:=[⟨2,0,1⟩]},bz ⟨#[119,111,114,100]⟩ 1 [⟨mY,0⟩],{(bz ⟨#[104,101,97,100]⟩ 1 [⟨mY,5⟩,⟨mY,0⟩,⟨mz,0⟩]) with lay:=[⟨3,0,2⟩,⟨1,2,0⟩]},{(bz ⟨#[108,105,110,101]⟩ 1 [⟨mY,5⟩,⟨mz,0⟩]) with lay:=[⟨4,0,1⟩],cond:=pg (tv 0)}]}
def fK:Gr:={(dZ [⟨#[83]⟩,⟨#[87]⟩,⟨#[86]⟩]) with qa0:=[bz ⟨#[112,97,105,114]⟩ 0 [⟨mz,1⟩,⟨mz,2⟩],{(bz ⟨#[115,105,110,103,108,101]⟩ 1 [⟨mY,0⟩]) with rank:= -1},bz ⟨#[100,111,117,98,108,101]⟩ 1 [⟨mY,0⟩,⟨mY,0⟩],bz ⟨#[110,111,110,101]⟩ 2 [],bz ⟨#[110,101,120,116]⟩ 2 [⟨mY,0⟩,⟨mz,2⟩],{(bz ⟨#[109,97,114,107]⟩ 2 [⟨mY,1⟩,⟨mz,2⟩]) with cond:=pg (tv 1)}],fils:=[⟨3,0,0,0,1,0,[0],pg (tv 0)⟩,⟨4,0,0,0,2,0,[1],yQ 1⟩]}
def fL:Gr:={(dZ [⟨#[83]⟩,⟨#[79]⟩,⟨#[80]⟩]) with qa0:=[bz ⟨#[97,108,108]⟩ 0 [⟨mz,1⟩,⟨mY,0⟩,⟨mz,1⟩,⟨mz,2⟩],bz ⟨#[110,111]⟩ 1 [],bz ⟨#[121,101,115]⟩ 1 [⟨mY,1⟩],bz ⟨#[101,110,100]⟩ 2 [],{(bz ⟨#[114,101,115,116]⟩ 2 [⟨mY,1⟩,⟨mz,2⟩]) with cond:=pg (tv 0)}]}
theorem ga (F:PH):ν 27 #[] F λr g=>(∃w,r=nL w/\GV g w aQ)/\F.le g:=by refine qgb ?_;unfold Wb;refine gL F [⟨#[76]⟩,⟨#[73]⟩] rfl rfl λC D E h=> ?_;refine h.rule0 (by decide) λF2 h=> ?_;refine h.rule2 (dW 0) (dW 1) (by decide) λF2 h=> ?_;refine h.rule3 (cS 1) (cS 0) (cS 7) (by decide) λF2 h=> ?_;refine h.rule4 (cS 0) (cS 2) (cS 0) (cS 7) (by decide) λF2 h=> ?_;refine h.rule4 (cS 0) (cS 2) (cS 0) (cS 7) (by decide) λF2 h=> ?_;refine h.rule3 (cS 3) (dW 0) (cS 4) (by decide) λF2 h=> ?_;refine h.rule2 (cS 0) (cS 7) (by decide) λF2 h=> ?_;refine h.sco 2 rfl λF2 h=> ?_;refine h.sco 3 rfl λF2 h=> ?_;refine h.sco 4 rfl λF2 h=> ?_;refine h.sco 5 rfl λF2 h=> ?_;refine h.sco 6 rfl λF2 h=> ?_;refine h.rank 4 rfl λF2 h=> ?_;refine h.cnd 6 rfl 0 (by decide) λF2 h=> ?_;exact h.fin (R:=λr g=>(∃w,r=nL w/\GV g w aQ)/\F.le g) λw g A B=>⟨⟨w,rfl,A⟩,B⟩
theorem qh4 (F:PH):ν 124 #[] F λr g=>(∃w,r=nL w/\GV g w ik)/\F.le g:=by refine qd9 ?_;unfold Pf;refine gL F [⟨#[66]⟩,⟨#[73]⟩] rfl rfl λC D E h=> ?_;refine h.rule1 (dW 1) (by decide) λF2 h=> ?_;refine h.rule2 (dW 0) (dW 1) (by decide) λF2 h=> ?_;refine h.rule1 (cS 0) (by decide) λF2 h=> ?_;refine h.rule3 (cS 5) (cS 0) (dW 0) (by decide) λF2 h=> ?_;refine h.rule2 (cS 5) (dW 0) (by decide) λF2 h=> ?_;refine h.lay1 1 rfl λF2 h=> ?_;refine h.lay2 3 rfl λF2 h=> ?_;refine h.lay1 4 rfl λF2 h=> ?_;refine h.cnd 4 rfl 0 (by decide) λF2 h=> ?_;exact h.fin (R:=λr g=>(∃w,r=nL w/\GV g w ik)/\F.le g) λw g A B=>⟨⟨w,rfl,A⟩,B⟩
theorem qhP (F:PH):ν 126 #[] F λr g=>(∃w,r=nL w/\GV g w fL)/\F.le g:=by refine qeb ?_;unfold Ph;refine gL F [⟨#[83]⟩,⟨#[79]⟩,⟨#[80]⟩] rfl rfl λC D E h=> ?_;refine h.rule4 (dW 1) (cS 0) (dW 1) (dW 2) (by decide) λF2 h=> ?_;refine h.rule0 (by decide) λF2 h=> ?_;refine h.rule1 (cS 1) (by decide) λF2 h=> ?_;refine h.rule0 (by decide) λF2 h=> ?_;refine h.rule2 (cS 1) (dW 2) (by decide) λF2 h=> ?_;refine h.cnd 4 rfl 0 (by decide) λF2 h=> ?_;exact h.fin (R:=λr g=>(∃w,r=nL w/\GV g w fL)/\F.le g) λw g A B=>⟨⟨w,rfl,A⟩,B⟩
theorem kV {F:PH} {b:Nat} {e:TypeId} {x:Int} (q:F b=V (Y #[U x] e)):RL F (ua (V (ou b 0 I)) 1 1) [x]:=RL.ints.2 (RdS.new q rfl rfl (qX _))
theorem pQ {F:PH} {x:Fi} {t n:Sl} (h:RL F t x.qa2) (g:RL F n x.cond.1):Mem.rep F x (x.arr t n):=⟨t,n,rfl,h,g⟩
theorem wn {F:PH} {x:Lv} {p n:Sl} (g:RL F p x.ps) (h:RL F n x.cond.1):Mem.rep F x (x.arr p n):=⟨p,n,rfl,g,h⟩
theorem qhQ (F:PH):ν 125 #[] F λr A=>(∃w,r=nL w/\GV A w fK)/\F.le A:=by refine qea ?_;unfold Pg;refine gL F [⟨#[83]⟩,⟨#[87]⟩,⟨#[86]⟩] rfl rfl λb0 b1 F1 h=> ?_;refine h.rule2 (dW 1) (dW 2) (by decide) λF2 h=> ?_;refine h.rule1 (cS 0) (by decide) λF2 h=> ?_;refine h.rule2 (cS 0) (cS 0) (by decide) λF2 h=> ?_;refine h.rule0 (by decide) λF2 h=> ?_;refine h.rule2 (cS 0) (dW 2) (by decide) λF2 h=> ?_;refine h.rule2 (cS 1) (dW 2) (by decide) λF2 h=> ?_;refine h.rank 1 rfl λF2 h=> ?_;refine h.cnd 5 rfl 1 (by decide) λF2 h=> ?_;refine h.new λX K3 F3 l3 J h=> ?_;refine h.run (λG _=>bR 0 (by decide) G) λ_ K4 F4 B N h=> ?_;obtain ⟨_,rfl,H⟩:=B;obtain ⟨m,rfl,hm⟩:=H.out;refine ⟨_,rfl,rfl,?_⟩;refine h.new λW K5 F5 P E h=> ?_;refine h.run (λG _=>bR 1 (by decide) G) λ_ K6 F6 B l6 h=> ?_;obtain ⟨_,rfl,M⟩:=B;refine ⟨_,rfl,?_⟩;refine h.run (λG L=>nK (by decide) (M.le L)) λ_ K7 F7 B Q h=> ?_;obtain ⟨_,rfl,H⟩:=B;obtain ⟨m',rfl,K⟩:=H.out;refine ⟨_,rfl,rfl,rfl,rfl,?_⟩;refine h.new λa0 K8 F8 O D h=> ?_;have C:=aa l6 (aa Q O);have g:=aa P C;refine h.fils (x:=[⟨3,0,0,0,1,0,[0],pg (tv 0)⟩,⟨4,0,0,0,2,0,[1],yQ 1⟩]) ⟨[_,_],.cons (pQ (kV (g _ _ (N _ _ J))) (hm.le g)) (.cons (pQ (kV (C _ _ E)) (K.le O)) .nil),RdS.new D (by kernel_rfl) rfl (qX _)⟩ λF9 h=> ?_;exact h.fin (R:=λr A=>(∃w,r=nL w/\GV A w fK)/\F.le A) λw A M L=>⟨⟨w,rfl,M⟩,aa l3 (aa N (aa g L))⟩
def wq:Gr:={(dZ [⟨#[83]⟩,⟨#[67]⟩]) with qa0:=bQ.qa0}
theorem DG {K F F0:PH} {G M C B:Nat} {g:Gr} {c n t s sp l m v:Sl} {vs:List Γ} (hF:F0.le K) (hg:{g with fils:=[⟨2,0,2,1,0,0,[],pg (tv 0)⟩,⟨5,0,0,0,0,0,[5,6],pg (tv 1)⟩]}=bQ)
  (st:St K F [pt B (Y (wr (wr (#[ru .i64 0,.int .i64 0,.int .i64 0,.int .i64 0,.int .i64 0,.int .i64 0,.slice I 0 0,.slice I 0 0,.int .i64 0,.int .i64 0,.int .i64 0,.int .i64 0,.int .i64 0,.int .i64 0,.int .i64 0,.slice I 0 0,.slice I 0 0,.int .i64 0]:Γ) 0 (wr (rV (rV (rV (#[ru .i64 0,.int .i64 0,.int .i64 0,.int .i64 0,.int .i64 0,.int .i64 0,.slice I 0 0,.slice I 0 0,.int .i64 0]:Γ) 0 (U 2)) 2 (U 2)) 3 (U 1)) 7 (#[m.v,U (pg (tv 0)).2]:Γ).toList).toList) 9 (wr (rV (rV (#[ru .i64 0,.int .i64 0,.int .i64 0,.int .i64 0,.int .i64 0,.int .i64 0,.slice I 0 0,.slice I 0 0,.int .i64 0]:Γ) 0 (U 5)) 6 (nE (ua (V (ou C 0 I)) 2 2))) 7 (#[v.v,U dx.2]:Γ).toList).toList) 233),pt M (Y (g.arr c n t s sp l (ua (V (ou B 0 I)) 2 2)) 39),own sp 64 13 (tZ vs),pt G (Y zG 39)])
  (X:bS K g.qa0 vs) (hc:RL K c g.qa4) (hn:RL K n g.fam.1) (W:RL K t g.qa2) (hs:RL K s g.qa1) (N:RL K l g.lvs) (hm:RL K m (pg (tv 0)).1) (J:RL K (ua (V (ou C 0 I)) 2 2) [(5:Int),6]):
  p5 G M (λr D=>(∃w,r=nL w/\GV D w bQ)/\F0.le D) F:=by
 unfold p5;refine ⟨_,st.ld1 rfl,?_⟩;refine st.run (bR 1 (by decide) _) λ_ K1 F1 E Q st=> ?_;obtain ⟨_,rfl,hw⟩:=E;obtain ⟨m1,rfl,L⟩:=hw.out;refine ⟨_,rfl,st.ld1 rfl,_,rfl,by decide,(by show (1:Int)<2;decide),?_⟩;simp only [aI];refine st.putR0 (o:=16) (w':= #[U 2,U 0,U 2,U 1,U 0,U 0,nE pi,m.v,U (pg (tv 0)).2,U 5,U 0,U 0,U 0,U 0,U 0,nE (ua (V (ou C 0 I)) 2 2),m1.v,U (pg (tv 1)).2]) rfl (by simp [ak,nE]) (by rw [dK,dK];show 16+2<=18;decide) (by kernel_rfl) λF2 st=> ?_;obtain ⟨O,P,⟨H,hA,hH⟩,st⟩:=st.pin;have q:=hH _ _ hA;have A:=aa Q P;have hf:RL O (ua (V (ou B 0 I)) 2 2) [(⟨2,0,2,1,0,0,[],pg (tv 0)⟩:Fi),⟨5,0,0,0,0,0,[5,6],pg (tv 1)⟩]:=
  ⟨[_,_],.cons (pQ (t:=pi) (.nil _) (hm.le A)) (.cons (pQ (J.le A) (L.le P)) .nil),RdS.new q (by kernel_rfl) rfl (qX _)⟩
 have h:KS O F2 G M bQ:=by rw [<- hg];exact ⟨O,c,n,t,s,sp,l,_,vs,au _,st,X.le A,hc.le A,hn.le A,W.le A,hs.le A,N.le A,hf⟩
 exact h.fin (R:=λr D=>(∃w,r=nL w/\GV D w bQ)/\F0.le D) λw D hv N=>⟨⟨w,rfl,hv⟩,aa hF (aa A N)⟩
theorem qhf (F:PH):ν 123 #[] F λr Q=>(∃w,r=nL w/\GV Q w bQ)/\F.le Q:=by
 refine qd8 ?_;unfold Pe;refine gL F [⟨#[83]⟩,⟨#[67]⟩] rfl rfl λb0 b1 F1 h=> ?_;refine h.allv λb2 K1 F2 n H q P h=> ?_;refine h.rule5 (cS 5) (dW 1) (dW 0) (cS 6) (dW 0) (by decide) λF2 h=> ?_;refine h.rule3 (cS 5) (dW 1) (dW 0) (by decide) λF2 h=> ?_;refine h.rule2 (dW 1) (cS 7) (by decide) λF2 h=> ?_;refine h.rule3 (cS 3) (dW 0) (cS 4) (by decide) λF2 h=> ?_;refine h.rule1 (cS 0) (by decide) λF2 h=> ?_;refine h.brk 3 rfl λF2 h=> ?_;refine ⟨_,rfl,ai (h.le _ _ q),?_⟩;obtain ⟨G,c,N,t,s,O,l,f,vs,h⟩:=h;have P:=P.le h.k;have H:=aa H h.k;refine ⟨?_,?_⟩
 ·refine h.st.run (bR 0 (by decide) _) λ_ K4 F4 J D st=> ?_;obtain ⟨_,rfl,L⟩:=J;obtain ⟨m,rfl,K⟩:=L.out;refine ⟨_,rfl,ai (st.le _ _ (D _ _ (h.k _ _ q))),rfl,?_⟩;refine st.newG λM W R E B _ st=> ?_;refine ⟨rfl,rfl,rfl,?_⟩;refine st.new λC F6 st=> ?_;refine st.set1 (w':=(wq.arr c N t s O l (ua (V (ou C 0 I)) 2 2))) (vx rfl) rfl λX st=> ?_;have A:=aa D E;exact DG (g:=wq) (aa H A) rfl st (h.r.le A) (h.c.le A) (h.n.le A) (h.t.le A) (h.s.le A) (h.l.le A) (K.le E) (RL.ints.2 (RdS.new B rfl rfl (qX _)))
 ·refine h.st.newG λM W R E B _ st=> ?_;refine ⟨rfl,?_⟩;refine st.run (bR 0 (by decide) _) λ_ K4 F4 J D st=> ?_;obtain ⟨_,rfl,L⟩:=J;obtain ⟨m,rfl,K⟩:=L.out;refine ⟨_,rfl,ai (st.le _ _ (D _ _ (E _ _ (h.k _ _ q)))),rfl,rfl,rfl,?_⟩;refine st.new λC F6 st=> ?_;refine st.set1 (w':=(wq.arr c N t s O l (ua (V (ou C 0 I)) 2 2))) (vx rfl) rfl λX st=> ?_;have A:=aa E D;exact DG (g:=wq) (aa H A) rfl st (h.r.le A) (h.c.le A) (h.n.le A) (h.t.le A) (h.s.le A) (h.l.le A) K ((RL.ints.2 (RdS.new B rfl rfl (qX _))).le D)
def qdz:Gr:={bZ with lvs:=[]}
abbrev Vj (K0:PH):VR:=λr F'=>(∃w,r=nL w/\GV F' w bZ)/\K0.le F'
structure EK (K0 F:PH) (b0 b1 b2:Nat) (n:Sl) (x y z:Nat) (m o:Sl) (p q r s u:Bool):Prop where
 ex:∃K,KS K F b0 b1 qdz/\K0.le K/\K b2=V (Y #[nE n,U dx.2] 33)/\RL K n dx.1/\(p=mY->K x=V (Y #[U 4] 3))/\(q=mY->K y=V (Y #[U 1] 3))/\(r=mY->K z=V (Y #[U 0] 3))/\(s=mY->RL K m (pg (tv 0)).1)/\(u=mY->RL K o (yQ 0).1)
section
variable {K0 F:PH} {b0 b1 b2 x y z:Nat} {n m o:Sl} {p q r s u:Bool} {C:Nat->Ψ} {D:Γ->Ψ}
theorem EK.row (H:EK K0 F b0 b1 b2 n x y z m o p q r s u):F.row (ou b2 0 I) #[nE n,U dx.2]:=by obtain ⟨K,h,_,a,_⟩:=H.ex;exact ai (h.le _ _ a)
theorem EK.n1 (H:EK K0 F b0 b1 b2 n x y z m o p q r s u) (k:∀x F,EK K0 F b0 b1 b2 n x y z m o mY q r s u->C x F):Nb F (Y #[U 4] 3) C:=by obtain ⟨K,h,l,a,c,L,w,G,J,B⟩:=H.ex;exact h.new λb A E g e h=>k b E ⟨A,h,aa l g,g _ _ a,c.le g,λ_=>e,λi=>g _ _ (w i),λi=>g _ _ (G i),λi=>(J i).le g,λi=>(B i).le g⟩
theorem EK.n2 (H:EK K0 F b0 b1 b2 n x y z m o p q r s u) (k:∀y F,EK K0 F b0 b1 b2 n x y z m o p mY r s u->C y F):Nb F (Y #[U 1] 3) C:=by obtain ⟨K,h,l,a,c,E,L,G,J,A⟩:=H.ex;exact h.new λb w B g e h=>k b B ⟨w,h,aa l g,g _ _ a,c.le g,λi=>g _ _ (E i),λ_=>e,λi=>g _ _ (G i),λi=>(J i).le g,λi=>(A i).le g⟩
theorem EK.n3 (H:EK K0 F b0 b1 b2 n x y z m o p q r s u) (k:∀z F,EK K0 F b0 b1 b2 n x y z m o p q mY s u->C z F):Nb F (Y #[U 0] 3) C:=by obtain ⟨K,h,l,a,c,G,w,L,J,B⟩:=H.ex;exact h.new λb A E g e h=>k b E ⟨A,h,aa l g,g _ _ a,c.le g,λi=>g _ _ (G i),λi=>g _ _ (w i),λ_=>e,λi=>(J i).le g,λi=>(B i).le g⟩
theorem EK.c0 (H:EK K0 F b0 b1 b2 n x y z m o p q r s u) (k:∀m F,EK K0 F b0 b1 b2 n x y z m o p q r mY u->D #[nE m,U (pg (tv 0)).2] F):Ca 56 #[U (0:Int)] F D:=by obtain ⟨K,h,l,a,c,M,w,N,O,B⟩:=H.ex;refine h.run (λG _=>bR 0 (by decide) G) λ_ A J L g h=> ?_;obtain ⟨_,rfl,E⟩:=L;obtain ⟨m,rfl,e⟩:=E.out;exact ⟨_,rfl,k m J ⟨A,h,aa l g,g _ _ a,c.le g,λi=>g _ _ (M i),λi=>g _ _ (w i),λi=>g _ _ (N i),λ_=>e,λi=>(B i).le g⟩⟩
theorem EK.c1 (H:EK K0 F b0 b1 b2 n x y z m o p q r mY u) (k:∀o F,EK K0 F b0 b1 b2 n x y z m o p q r mY mY->D #[nE o,U (yQ 0).2] F):Ca 157 #[nL #[nE m,U (pg (tv 0)).2]] F D:=by obtain ⟨K,h,l,a,c,N,A,O,w,P⟩:=H.ex;refine h.run (λG L=>nK (x:=0) (by decide) ((DV.mk (w rfl)).le L)) λ_ B J M g h=> ?_;obtain ⟨_,rfl,E⟩:=M;obtain ⟨o,rfl,e⟩:=E.out;exact ⟨_,rfl,k o J ⟨B,h,aa l g,g _ _ a,c.le g,λi=>g _ _ (N i),λi=>g _ _ (A i),λi=>g _ _ (O i),λi=>(w i).le g,λ_=>e⟩⟩
theorem EK.fin {cs:Γ} (A:cs.toList=tZ [Lv.arr ⟨[4],2,dx⟩ (Sb x 1) n,Lv.arr ⟨[1],1,dx⟩ (Sb y 1) n,Lv.arr ⟨[0],1,yQ 0⟩ (Sb z 1) o]) (H:EK K0 F b0 b1 b2 n x y z m o mY mY mY s mY):Nb F (Y cs 236) λb F=>mA b1 b b0 (Vj K0) F:=by
 obtain ⟨K,h,l,a,c,L,B,N,W,E⟩:=H.ex;refine h.new λb P G g e h=> ?_;unfold mA;have Q:cs.size=12:=by rw [<- zN,A];rfl
 refine h.lvs (x:=bZ.lvs) ⟨[_,_,_],.cons (wn (kV (g _ _ (L rfl))) (c.le g)) (.cons (wn (kV (g _ _ (B rfl))) (c.le g)) (.cons (wn (kV (g _ _ (N rfl))) ((E rfl).le g)) .nil)),RdS.new e (by rw [A];rfl) rfl (qX _)⟩ λO h=> ?_;unfold Eb;exact h.fin (R:=Vj K0) λw G M J=>⟨⟨w,rfl,M⟩,aa l (aa g J)⟩
end
theorem qg8 (F:PH):ν 122 #[] F λr g=>(∃w,r=nL w/\GV g w bZ)/\F.le g:=by
 refine qd7 ?_;unfold Pd;refine gL F [⟨#[69]⟩] rfl rfl λB D J h=> ?_;refine h.allv λE G F2 n C q A h=> ?_;refine h.rule3 (dW 0) (cS 1) (dW 0) (by decide) λF2 h=> ?_;refine h.rule3 (dW 0) (cS 2) (dW 0) (by decide) λF2 h=> ?_;refine h.rule3 (cS 3) (dW 0) (cS 4) (by decide) λF2 h=> ?_;refine h.rule1 (cS 0) (by decide) λF2 h=> ?_;refine h.rule3 (dW 0) (cS 8) (dW 0) (by decide) λF2 h=> ?_;refine h.brk 2 rfl λF2 h=> ?_;refine h.cnd 4 rfl 1 (by decide) λF2 h=> ?_;have H:EK F _ B D E n 0 0 0 n n mz mz mz mz mz:=⟨_,h,C,q,A,λi=>(by cases i),λi=>(by cases i),λi=>(by cases i),λi=>(by cases i),λi=>(by cases i)⟩;refine ⟨_,rfl,H.row,_,rfl,H.row,?_⟩
 repeat' first
  |exact H.fin (by kernel_rfl)
  |refine ⟨rfl,?_⟩
  |refine ⟨H.row,?_⟩
  |refine And.intro ?_ ?_
  |refine H.n1 λx F H=> ?_
  |refine H.n2 λy F H=> ?_
  |refine H.n3 λz F H=> ?_
  |refine H.c0 λm F H=> ?_
  |refine H.c1 λo F H=> ?_
def cn (k:Nat):Gr:=if k=0 then bZ else if k=1 then bQ else if k=2 then aQ else if k=3 then ik else if k=4 then fK else fL
theorem Bz (k:Nat) (F:PH):ν 92 #[ru .u8 (k:Int)] F λr C=>(∃w,r=nL w/\GV C w (cn (k % 6)))/\F.le C:=by
 refine aad ?_;unfold Wk;refine (St.start F).new λb B h=> ?_;have e:sq (k:Int) 6=((k % 6:Nat):Int):=by rw [Xu (by omega)];omega
 rw [e];have M:k % 6<6:=V7 _ (by decide);generalize k % 6=j at*;have fin:∀{v:ξ} {G B:PH},F.le G->(∃w,v=nL w/\GV G w (cn j))->St G B [pt b (Y zG 39)]->∃w:Γ,v=nL w/\aA B (ou b 0 I) 9 w λF2=>∃w:Γ,w.size=9/\F2.row (ou b 0 I) w/\((∃w',nL w=nL w'/\GV F2 w' (cn j))/\F.le F2):=λ{v G B} J A h=>by obtain ⟨w,rfl,A⟩:=A;exact ⟨w,rfl,h.put0 (w':=w) A.size rfl A.st λF2 h=>⟨w,A.size,h.whole0,⟨w,rfl,A.le h.le⟩,aa J h.le⟩⟩
 refine ⟨λH=> ?_,λH=>⟨λK=> ?_,λK=>⟨λE=> ?_,λE=>⟨λD=> ?_,λD=>⟨λL=> ?_,λL=> ?_⟩⟩⟩⟩⟩
 ·obtain rfl:j=0:=by omega
  exact h.run (qg8 _) λ_ G F2 g l h=>fin l g h
 ·obtain rfl:j=1:=by omega
  exact h.run (qhf _) λ_ G F2 g l h=>fin l g h
 ·obtain rfl:j=2:=by omega
  exact h.run (ga _) λ_ G F2 g l h=>fin l g h
 ·obtain rfl:j=3:=by omega
  exact h.run (qh4 _) λ_ G F2 g l h=>fin l g h
 ·obtain rfl:j=4:=by omega
  exact h.run (qhQ _) λ_ G F2 g l h=>fin l g h
 ·obtain rfl:j=5:=by omega
  exact h.run (qhP _) λ_ G F2 g l h=>fin l g h
def ja (b n:Nat):Tr:=if n=0\/b % 6<3 then qa6 mY else if b % 6=3 then tv (b / 6 % n) else if b % 6=4 then ap2 lj (tv (b / 6 % n)) (qa6 mY) else iW [(b:Int)] n 0 0
theorem DH {n:Nat} (h:n<256):u8.wrap (n:Int)=n:=by simp only [IntKind.wrap,IntKind.bits,IntKind.signed,W5,VN,if_false];omega
theorem wu {F G g:PH} {b:Nat} {As:List (Ψ)} {w c:Γ} {d:vE} {P:Prop} (h:St G g (pt b (Y c 33)::As)) (C:c.size=2) (A:DV G w d) (D:F.le G) (B:P):
  aA g (ou b 0 I) 2 w λF2=>∃v:Γ,v.size=2/\F2.row (ou b 0 I) v/\((B3 d (nL v) F2/\P)/\F.le F2):=by
 obtain ⟨n,rfl,r⟩:=A.out;refine h.put0 (w':= #[n.v,U d.2]) rfl C (by simp [ak,nE]) λF2 h=> ?_;exact ⟨_,rfl,h.whole0,⟨⟨_,rfl,DV.mk (r.le h.le)⟩,B⟩,aa D h.le⟩
theorem yS (b n:Nat) (hb:b<256) (E:n<=6) (F:PH):ν 128 #[ru .u8 (b:Int),U n] F λr C=>(B3 (pg (ja b n)) r C/\Sx n (ja b n))/\F.le C:=by
 refine qec ?_;unfold Pj;refine (St.start F).new λb4 F1 h=> ?_;have em:sq (b:Int) 6=((b % 6:Nat):Int):=by rw [Xu (by omega)];omega
 have Q:∀q:Bool,(n=0->q=mY)->(n≠0->q=decide (b % 6<3))->p6 (b:Int) (n:Int) b4 q (λr C=>(B3 (pg (ja b n)) r C/\Sx n (ja b n))/\F.le C) F1:=λq H J=>by
  unfold p6;refine ⟨λD=> ?_,λD=> ?_⟩
  ·have e:ja b n=qa6 mY:=by
    unfold ja;rw [Χ];by_cases g:n=0
    ·exact .inl g
    ·have:=J g;rw [D] at this;exact .inr (ζ this.symm)
   rw [e];refine h.run (gS _) λ_ G F2 A l h=> ?_;obtain ⟨w,rfl,B⟩:=A;exact ⟨_,rfl,wu h rfl B l (Sx.qa6 n mY)⟩
  ·have g:n≠0:=λg=>by rw [H g] at D;cases D
   have a0:¬b % 6<3:=by have:=J g;rw [D] at this;exact ι this.symm
   have ev:sq (i64.wrap (u8.wrap (Int.tdiv (b:Int) 6))) (n:Int)=((b / 6 % n:Nat):Int):=by
    have e1:Int.tdiv (b:Int) 6=((b / 6:Nat):Int):=by rw [Y9 (by omega)];omega
    have e2:u8.wrap ((b / 6:Nat):Int)=((b / 6:Nat):Int):=DH (by omega);rw [e1,e2,aJ (by omega),Xu (by omega)];exact (Int.natCast_emod _ _).symm
   have N:b / 6 % n<n:=V7 _ (by omega);refine ⟨by omega,?_⟩;rw [ev,em];generalize X:b / 6 % n=x at*;refine h.run (bR x (by omega) _) λ_ G F2 A l h=> ?_;obtain ⟨w,rfl,B⟩:=A;obtain ⟨m,rfl,W⟩:=B.out;refine ⟨_,rfl,?_⟩;refine h.new λb5 F3 h=> ?_;refine h.put0 (w':= #[m.v,U (pg (tv x)).2]) rfl rfl (by simp [ak,nE]) λF4 h=> ?_;have R:Sx n (tv x):=Sx.tv N E;refine ⟨λK=> ?_,λK=>⟨λL=> ?_,λL=> ?_⟩⟩
   ·have e:ja b n=tv x:=by unfold ja;rw [Υ (by omega),Χ (by omega),X]
    rw [e];refine ⟨_,rfl,h.whole0,?_⟩;have h:=h.swap;exact wu h rfl (DV.mk W) l R
   ·have e:ja b n=ap2 lj (tv x) (qa6 mY):=by unfold ja;rw [Υ (by omega),Υ (by omega),Χ (by omega),X]
    rw [e];refine ⟨_,rfl,h.whole0,?_⟩;refine h.run (nK (x:=x) (by omega) (DV.mk W)) λ_ G2 F5 A M h=> ?_;obtain ⟨w,rfl,B⟩:=A;refine ⟨_,rfl,?_⟩;have h:=h.swap;exact wu h rfl B (aa l M) (R.ap2 (Sx.qa6 n mY))
   ·have e:ja b n=iW [(b:Int)] n 0 0:=by unfold ja;rw [Υ (by omega),Υ (by omega),Υ (by omega)]
    rw [e];refine h.newG λO G2 F5 M q _ h=> ?_;have A:RdS G2 (ua (V (ou O 0 I)) 1 1) 1 ([(b:Int)].map (ru .u8)):=RdS.new q rfl rfl (qX _);refine h.run (P:=λr G=>(∃u,r=nL u/\DV G u (pg (iW [(b:Int)] n 0 0)))/\Sx n (iW [(b:Int)] n 0 0)) ((oP E A).mono λr C ⟨u,t,J,⟨h2,K⟩,L,h5⟩=>⟨⟨⟨u,J,K▸L⟩,K▸h2⟩,h5⟩) λ_ G3 F6 A l3 h=> ?_;obtain ⟨⟨w,rfl,B⟩,hs⟩:=A;refine ⟨_,rfl,?_⟩;have h:=h.swap;exact wu h rfl B (aa l (aa M l3)) hs
 refine ⟨λH=>Q mY (λ_=>rfl) (λE=>absurd (by omega) E),λH=>Q _ (λE=>absurd (by omega) H) (λ_=> ?_)⟩;rw [em];exact decide_eq_decide.2 (by omega)
open Classical in
def wx (p:Pr):Bool:=decide (BX p)
theorem qhR {F:PH} {w:Γ} {p:Pr} (hw:Mem.rep F p w) (_:p.right.length<=1000):ν 161 #[nL w] F λr F'=>r=nS (wx p)/\F.le F':=by
 obtain ⟨s,n,l,rfl,h1,h2,h3⟩:=hw;have e1:=h1.len;have e3:=h3.len;have no:∀{D:PH},F.le D->¬BX p->(nS mz=nS (wx p)/\F.le D):=λhl hn=>⟨by unfold wx;simp [hn],hl⟩;have X:∀{D:PH},F.le D->∀i:Nat,i<p.right.length->∃(a:Addr) (x:Sy),s.qa5=V a/\p.right[i]? =V x/\D.cell (nR a (nT (i:Int)*2))=V (nS x.t)/\D.cell (nR (nR a (nT (i:Int)*2)) 1)=V (U x.i):=λhl i hi=>by obtain ⟨a,c,E,C,J⟩:=(h1.le hl).get (by decide) (N5 hi);cases J;rw [N4];exact ⟨a,_,E,N5 hi,aE C rfl,aM C rfl⟩
 refine qdN ?_;unfold Pt;refine (St.start F).newG λb1 G1 D l1 q _ h=> ?_;have q:=h.le _ _ q;have A:=aa l1 h.le;refine ⟨_,ld q rfl,λJ=>no A λg=>J (by rw [e1,g.1];rfl),λJ=>⟨_,ld q rfl,λhk=>no A λg=>hk g.2.1,λhk=>⟨_,ld q rfl,λB=>no A λg=> ?_,λB=>⟨p.sco.arr,rfl,fX q rfl,decide (p.sco=kg),λF=>Pa p.sco kg F,λH=>no A λg=> ?_,λH=> ?_⟩⟩⟩⟩
 ·rw [e3,g.2.2.1] at B;simp at B
 ·rw [ε g.2.2.2.1] at H;cases H
 have J:p.right.length=3:=by omega
 have H:p.sco=kg:=by simpa using H
 have O:p.lay=[]:=V5 (by omega);have a0:p.rank=0:=Classical.not_not.1 hk;obtain ⟨a,x0,E,K,c0,_⟩:=X A 0 (by omega);obtain ⟨_,x1,L,G,c1,d1⟩:=X A 1 (by omega);obtain ⟨_,x2,M,P,c2,_⟩:=X A 2 (by omega);rw [E] at L M;cases L;cases M;refine ⟨_,ld q rfl,a,E,by decide,by omega,x0.t,c0,λQ=>⟨_,ld q rfl,a,E,by decide,by omega,x2.t,c2,λR=>⟨_,ld q rfl,a,E,by decide,by omega,x1.t,c1,λN=>⟨_,ld q rfl,a,E,by decide,by omega,x1.i,d1,p.left,ld q rfl,?_,A⟩,λN=>no A λg=> ?_⟩,λR=>no A λg=> ?_⟩,λQ=>no A λg=> ?_⟩
 ·have N:x1.t=mz:=by simpa using N
  unfold wx;congr 1;refine decide_eq_decide.2 ⟨λh=>⟨J,a0,O,H,⟨x0,K,Q⟩,?_,⟨x2,P,R⟩⟩,λg=> ?_⟩
  ·rw [G,<- h,<- N]
  ·have:=g.2.2.2.2.2.1;rw [G] at this;cases this;rfl
 ·have:=g.2.2.2.2.2.1;rw [G] at this;cases this;cases N
 ·obtain ⟨y,B,W⟩:=g.2.2.2.2.2.2;rw [P] at B;cases B;rw [W] at R;cases R
 ·obtain ⟨y,B,W⟩:=g.2.2.2.2.1;rw [K] at B;cases B;rw [W] at Q;cases Q
def cD (p:Pr) (m:Nat):Pr:=
 if p.right.length=0 then p else
 if m % 8=1 then {p with rank:=1} else
 if m % 8=2 then {p with rank:= -1} else
 if m % 8=3 then {p with brk:=wx p} else
 if m % 8=4 then {p with lay:=[⟨((1+m / 8 % 4:Nat):Int),((m / 8 / 4 % p.right.length:Nat):Int),if m / 8 % 4=0 then 0 else ((p.right.length - 1:Nat):Int)⟩]} else
 if m % 8=5 then {p with sco:={p.sco with o:=mY}} else
 if m % 8=6 then (if (p.right.getD (m / 8 % p.right.length) ⟨mz,0⟩).t=mY then {p with sco:=⟨mz,((m / 8 % p.right.length+1:Nat):Int),((1+m / 8 % 2:Nat):Int),0,0⟩} else p) else
 if m % 8=7 then (if (p.right.getD (m / 8 % p.right.length) ⟨mz,0⟩).t=mY then {p with sco:=⟨mz,0,0,((m / 8 % p.right.length+1:Nat):Int),((1+m / 8 % 7:Nat):Int)⟩} else p) else p
abbrev z13:Γ:= #[pe ⟨#[]⟩,ru .i64 0,.slice I 0 0,.slice I 0 0,.int .i64 0,.bool mz,.int .i64 0,.slice I 0 0,.bool mz,.int .i64 0,.int .i64 0,.int .i64 0,.int .i64 0]
theorem qh5 {F:PH} {w:Γ} {p:Pr} {m:Nat} (hw:Mem.rep F p w) (hm:m<256) (hb:p.right.length<=1000):ν 129 #[nL w,ru .u8 (m:Int)] F λr P=>(∃w',r=nL w'/\Mem.rep P (cD p m) w')/\F.le P:=by
 obtain ⟨s,n,l,rfl,K,h2,B⟩:=hw;have W:s.len=p.right.length:=K.len;refine qed ?_;unfold Pk;refine (St.start F).new λb2 X h=> ?_;refine h.new λb4 F2 h=> ?_;have e8:sq (m:Int) 8=((m % 8:Nat):Int):=by rw [Xu (by omega)];omega
 have ek:i64.wrap (u8.wrap (Int.tdiv (m:Int) 8))=((m / 8:Nat):Int):=by rw [Y9 (by omega),show (m:Int) / 8=((m / 8:Nat):Int) by omega,DH (by omega),aJ (by omega)]
 have J:∀a b:Nat,sq (a:Int) (b:Int)=((a % b:Nat):Int):=λa b=>by rw [Xu (by omega)];exact (Int.natCast_emod _ _).symm
 have fin:∀{G X:PH} {p':Pr} {N:Sl},F.le G->p'=cD p m->p'.right=p.right->p'.cond=p.cond->RL G N p'.lay->St G X [pt b4 (Y z13 64),pt b2 (Y (p'.arr s n N) 64)]->dp b2 b4 (λr P=>(∃w',r=nL w'/\Mem.rep P (cD p m) w')/\F.le P) X:=λ{G X p' N} hl hp hr R a0 h=>by unfold dp;refine ⟨_,rfl,h.whole1,?_⟩;refine h.put0 (w':=p'.arr s n N) rfl rfl (by simp [ak,nE]) λC h=> ?_;have lF:=aa hl h.le;exact ⟨_,rfl,h.whole0,⟨_,rfl,hp▸⟨s,n,N,rfl,by rw [hr];exact K.le lF,by rw [R];exact h2.le lF,a0.le h.le⟩⟩,lF⟩
 refine ⟨_,h.ld1 rfl,λh0=> ?_,λh0=> ?_⟩
 ·have e:cD p m=p:=by unfold cD;rw [Χ (by omega)]
  refine ⟨_,rfl,h.whole1,?_⟩;refine h.put0 (w':=p.arr s n l) rfl rfl (by simp [ak,nE]) λC h=> ?_;exact ⟨_,rfl,h.whole0,⟨_,rfl,by rw [e];exact ⟨s,n,l,rfl,K.le h.le,h2.le h.le,B.le h.le⟩⟩,h.le⟩
 have g:p.right.length≠0:=λh=>h0 (by rw [W,h];rfl);have a2:s.len≠0:=by omega
 rw [e8,ek];refine ⟨λc1=> ?_,λc1=>⟨λc2=> ?_,λc2=>⟨λc3=> ?_,λc3=>⟨λc4=> ?_,λc4=>⟨λc5=> ?_,λc5=>⟨λc6=> ?_,λc6=>⟨λc7=> ?_,λc7=> ?_⟩⟩⟩⟩⟩⟩⟩
 ·refine h.set1 (w':=Pr.arr {p with rank:=1} s n l) (vx rfl) rfl λC h=> ?_;exact fin (p':={p with rank:=1}) (au _) (by unfold cD;rw [Υ g,Χ (by omega)]) rfl rfl B h
 ·refine h.set1 (w':=Pr.arr {p with rank:= -1} s n l) (vx rfl) rfl λC h=> ?_;exact fin (p':={p with rank:= -1}) (au _) (by unfold cD;rw [Υ g,Υ (by omega),Χ (by omega)]) rfl rfl B h
 ·refine h.set1 (w':=Pr.arr {p with brk:=mY} s n l) (vx rfl) rfl λC h=> ?_;refine ⟨_,rfl,h.whole1,?_⟩;refine h.runv (qhR (p:={p with brk:=mY}) ⟨s,n,l,rfl,K,h2,B⟩ hb) λG F4 l4 h=> ?_;refine ⟨_,rfl,?_⟩;refine h.set1 (w':=Pr.arr {p with brk:=wx p} s n l) (vx rfl) rfl λF5 h=> ?_;exact fin (p':={p with brk:=wx p}) l4 (by unfold cD;rw [Υ g,Υ (by omega),Υ (by omega),Χ (by omega)]) rfl rfl (B.le l4) h
 ·have k4:sq ((m / 8:Nat):Int) 4=((m / 8 % 4:Nat):Int):=J _ 4;have d4:i64.wrap (Int.tdiv ((m / 8:Nat):Int) 4)=((m / 8 / 4:Nat):Int):=by rw [Y9 (by omega),aJ (by omega)];omega
  have Q:i64.wrap ((1:Int)+((m / 8 % 4:Nat):Int))=((1+m / 8 % 4:Nat):Int):=by rw [aJ (by omega)];omega
  have L:i64.wrap ((s.len:Int) - 1)=((p.right.length - 1:Nat):Int):=by rw [aJ (by omega)];omega
  rw [k4,d4,J,Q,L,W];refine ⟨by omega,rfl,?_⟩;refine h.new λa1 C h=> ?_;refine h.set2 (w':=Pr.arr p s n (ua (V (ou a1 0 I)) 1 1)) (vx rfl) rfl λF4 h=> ?_;refine ⟨λhk=> ?_,λhk=> ?_⟩
  ·refine ⟨_,h.ld2 rfl,_,rfl,by decide,(by show (0:Int)<1;decide),?_⟩;simp only [aI];refine h.set0 (i:=2) (w':=Cn.arr ⟨((1+m / 8 % 4:Nat):Int),((m / 8 / 4 % p.right.length:Nat):Int),0⟩) (vx rfl) rfl λF5 h=> ?_;obtain ⟨G,l5,⟨H,hA,hH⟩,h⟩:=h.pin;exact fin (p':={p with lay:=[⟨((1+m / 8 % 4:Nat):Int),((m / 8 / 4 % p.right.length:Nat):Int),0⟩]}) l5 (by unfold cD;rw [Υ g,Υ (by omega),Υ (by omega),Υ (by omega),Χ (by omega),Χ (by omega)]) rfl rfl (B4 (hH _ _ hA)) h
  ·obtain ⟨G,l5,⟨H,hA,hH⟩,h⟩:=h.pin;exact fin (p':={p with lay:=[⟨((1+m / 8 % 4:Nat):Int),((m / 8 / 4 % p.right.length:Nat):Int),((p.right.length - 1:Nat):Int)⟩]}) l5 (by unfold cD;rw [Υ g,Υ (by omega),Υ (by omega),Υ (by omega),Χ (by omega),Υ (by omega)]) rfl rfl (B4 (x:=⟨((1+m / 8 % 4:Nat):Int),((m / 8 / 4 % p.right.length:Nat):Int),((p.right.length - 1:Nat):Int)⟩) (hH _ _ hA)) h
 ·refine h.set1 (w':=Pr.arr {p with sco:={p.sco with o:=mY}} s n l) (vx rfl) rfl λC h=> ?_;exact fin (p':={p with sco:={p.sco with o:=mY}}) (au _) (by unfold cD;rw [Υ g,Υ (by omega),Υ (by omega),Υ (by omega),Υ (by omega),Χ (by omega)]) rfl rfl B h
 ·refine ⟨_,h.ld1 rfl,by omega,?_⟩;have E:m / 8 % p.right.length<p.right.length:=V7 _ (by omega);have O:=N5 E;obtain ⟨a,c,ha,A,R⟩:=(K.le h.le).get (by decide) O;cases R;rw [J,W];have kw:((p.right.length:Nat):Int)≠0:=by omega
  have M:p.right.getD (m / 8 % p.right.length) ⟨mz,0⟩=p.right[m / 8 % p.right.length]:=by rw [Q0,O];rfl
  have k2:sq ((m / 8:Nat):Int) 2=((m / 8 % 2:Nat):Int):=J _ 2;have Q:i64.wrap ((1:Int)+((m / 8 % 2:Nat):Int))=((1+m / 8 % 2:Nat):Int):=by rw [aJ (by omega)];omega
  have L:i64.wrap (((m / 8 % p.right.length:Nat):Int)+1)=((m / 8 % p.right.length+1:Nat):Int):=by rw [aJ (by omega)];omega
  rw [k2,Q,L];refine ⟨a,ha,by omega,by omega,_,by rw [N4];exact aE A rfl,λD=>⟨kw,?_⟩,λD=> ?_⟩
  ·refine h.putR1 (w':=Pr.arr {p with sco:=⟨mz,((m / 8 % p.right.length+1:Nat):Int),((1+m / 8 % 2:Nat):Int),0,0⟩} s n l) rfl (by simp [ak]) (by show 8+5<=13;decide) rfl λC h=> ?_;exact fin (p':={p with sco:=⟨mz,((m / 8 % p.right.length+1:Nat):Int),((1+m / 8 % 2:Nat):Int),0,0⟩}) (au _) (by unfold cD;rw [Υ g,Υ (by omega),Υ (by omega),Υ (by omega),Υ (by omega),Υ (by omega),Χ (by omega),Χ (by rw [M];exact D)]) rfl rfl B h
  ·exact fin (p':=p) (au _) (by unfold cD;rw [Υ g,Υ (by omega),Υ (by omega),Υ (by omega),Υ (by omega),Υ (by omega),Χ (by omega),Υ (by rw [M,D];decide)]) rfl rfl B h
 ·refine ⟨_,h.ld1 rfl,by omega,?_⟩;have E:m / 8 % p.right.length<p.right.length:=V7 _ (by omega);have O:=N5 E;obtain ⟨a,c,ha,A,R⟩:=(K.le h.le).get (by decide) O;cases R;rw [J,W];have kw:((p.right.length:Nat):Int)≠0:=by omega
  have M:p.right.getD (m / 8 % p.right.length) ⟨mz,0⟩=p.right[m / 8 % p.right.length]:=by rw [Q0,O];rfl
  have k7:sq ((m / 8:Nat):Int) 7=((m / 8 % 7:Nat):Int):=J _ 7;have Q:i64.wrap ((1:Int)+((m / 8 % 7:Nat):Int))=((1+m / 8 % 7:Nat):Int):=by rw [aJ (by omega)];omega
  have L:i64.wrap (((m / 8 % p.right.length:Nat):Int)+1)=((m / 8 % p.right.length+1:Nat):Int):=by rw [aJ (by omega)];omega
  rw [k7,Q,L];refine ⟨a,ha,by omega,by omega,_,by rw [N4];exact aE A rfl,λD=>⟨kw,?_⟩,λD=> ?_⟩
  ·refine h.putR1 (w':=Pr.arr {p with sco:=⟨mz,0,0,((m / 8 % p.right.length+1:Nat):Int),((1+m / 8 % 7:Nat):Int)⟩} s n l) rfl (by simp [ak]) (by show 8+5<=13;decide) rfl λC h=> ?_;exact fin (p':={p with sco:=⟨mz,0,0,((m / 8 % p.right.length+1:Nat):Int),((1+m / 8 % 7:Nat):Int)⟩}) (au _) (by unfold cD;rw [Υ g,Υ (by omega),Υ (by omega),Υ (by omega),Υ (by omega),Υ (by omega),Υ (by omega),Χ (by omega),Χ (by rw [M];exact D)]) rfl rfl B h
  ·exact fin (p':=p) (au _) (by unfold cD;rw [Υ g,Υ (by omega),Υ (by omega),Υ (by omega),Υ (by omega),Υ (by omega),Υ (by omega),Χ (by omega),Υ (by rw [M,D];decide)]) rfl rfl B h
 ·exact fin (p':=p) (au _) (by unfold cD;rw [Υ g,Υ (by omega),Υ (by omega),Υ (by omega),Υ (by omega),Υ (by omega),Υ (by omega),Υ (by omega)]) rfl rfl B h
theorem jD {b e n:Nat} {H:PH} (h:H b=V (Y #[] e)):own (ua (V (ou b 0 I)) 0 0) e n [] H:=.inr ⟨b,#[],rfl,h,by simp,qX _,by simp,by simp⟩
section
variable {α:Type} [Mem α] {G F:PH} {As:List (Ψ)} {t e bytes n:Nat} {z:ξ} {x:List α} {y:α} {sx:Sl} {w:Γ}
theorem St.grow2 (T:SlT t e (Mem.n α) bytes z) {vs:List Γ} {s:Sl} (h:St G F (own s e (Mem.n α) (tZ vs)::As)) (P:bS G x vs) (H:Mem.rep G y w) {B:Sl} (O:RdS G B (Mem.n α) w.toList) (W:s.len=x.length) (M:B.len=1) (R:x.length<=1000000) {C:Sl->Ψ}
  (k:∀D r E,G.le r->RL r D (x++[y])->St r E As->C D E):
  aG prog (Builtin.append_ #[t,t] t #[nE s,nE B]) F λv F=>∃s2:Sl,v=nE s2/\C s2 F:=by
 refine h.app0 T (O.le h.le) (Mem.st H) (by omega) λs2 F2 L N=> ?_;refine L.pinOwn (K:=C s2) λJ g A Q=>k s2 J F2 g ⟨vs++[w],(P.le g).append (.cons (Mem.le g H) .nil),?_⟩ Q;rw [ba,cI];exact A
theorem BA {b:Nat} (q:G b=V (Y w e)) (g:w.size=n):RdS G (ua (V (ou b 0 I)) 1 1) n w.toList:=RdS.new q (zc (by rw [zN,g,Ww];exact qX _)) (by rw [zN,g,Ww]) (qX _)
theorem St.grow (T:SlT t e (Mem.n α) bytes z) (h:St G F As) (hx:RL G sx x) (O:Mem.rep G y w) (W:x.length<=1000000) (hn:Mem.n α=n) {Q:Ψ} (hq:∀D J,St D J As->Q J) {C:Sl->Ψ}
    (k:∀K D J,G.le D->RL D K (x++[y])->St D J As->C K J):
    ((∀B,F B=I->xG (F.set B (Y #[] e)) λF=>
      ((aG prog (Builtin.append_ #[t,t] t #[nE (ua (V (ou B 0 I)) 0 0),nE sx]) F λv F=>∃s1:Sl,v=nE s1/\Q F/\w.size=n/\∀g,F g=I->xG (F.set g (Y w e)) λF=>
        aG prog (Builtin.append_ #[t,t] t #[nE s1,nE (ua (V (ou g 0 I)) 1 1)]) F λv F=>∃s2:Sl,v=nE s2/\C s2 F)/\
       (w.size=n/\∀g,F g=I->xG (F.set g (Y w e)) λF=>
        aG prog (Builtin.append_ #[t,t] t #[nE (ua (V (ou B 0 I)) 0 0),nE sx]) F λv F=>∃s1:Sl,v=nE s1/\
        aG prog (Builtin.append_ #[t,t] t #[nE s1,nE (ua (V (ou g 0 I)) 1 1)]) F λv F=>∃s2:Sl,v=nE s2/\C s2 F)))/\
     (w.size=n/\∀g,F g=I->xG (F.set g (Y w e)) λF=>∀B,F B=I->xG (F.set B (Y #[] e)) λF=>
        aG prog (Builtin.append_ #[t,t] t #[nE (ua (V (ou B 0 I)) 0 0),nE sx]) F λv F=>∃s1:Sl,v=nE s1/\
        aG prog (Builtin.append_ #[t,t] t #[nE s1,nE (ua (V (ou g 0 I)) 1 1)]) F λv F=>∃s2:Sl,v=nE s2/\C s2 F)):=by
  subst hn;have a0:=hx.len T.hn;obtain ⟨vs,M,L⟩:=hx;have A:=Mem.len O;have R:∀s1:Sl,s1.len=(ua (V (ou 0 0 I)) 0 0).len+sx.len->s1.len=x.length:=λs1 h=>by rw [h];show 0+sx.len=_;omega
  refine ⟨?_,?_⟩
  · refine h.new λB F1 h=> ?_
    have h:=h.imp (A':=own (ua (V (ou B 0 I)) 0 0) e (Mem.n α) []) 0 rfl λH _ P=>jD P;refine ⟨?_,A,?_⟩
    · refine St.app0 T h (L.le h.le) M.st (by show 0+sx.len<=_;omega) λs1 F2 h E=>⟨hq _ _ h.tail,A,?_⟩
      rw [zE] at h;refine h.newG λg G2 X r q _ h=> ?_;exact St.grow2 T h (M.le r) (Mem.le r O) (BA q A) (R s1 E) rfl W λK D J N=>k K D J (aa r N)
    · refine h.newG λg G2 X r q _ h=> ?_
      refine St.app0 T h ((L.le r).le h.le) M.st (by show 0+sx.len<=_;omega) λs1 F2 h E=> ?_;rw [zE] at h;exact St.grow2 T h (M.le r) (Mem.le r O) (BA q A) (R s1 E) rfl W λK D J N=>k K D J (aa r N)
  · refine ⟨A,?_⟩
    refine h.newG λg G2 X r q _ h=> ?_;refine h.new λB F1 h=> ?_;have h:=h.imp (A':=own (ua (V (ou B 0 I)) 0 0) e (Mem.n α) []) 0 rfl λH _ P=>jD P;refine St.app0 T h ((L.le r).le h.le) M.st (by show 0+sx.len<=_;omega) λs1 F2 h E=> ?_;rw [zE] at h;exact St.grow2 T h (M.le r) (Mem.le r O) (BA q A) (R s1 E) rfl W λK D J N=>k K D J (aa r N)
end
theorem lV {F:PH} {P:Program} {b n:Nat} {e:TypeId} (q:F b=V (Y #[vB n] e)):pn P (Conv.bytesToString (nE (ua (V (ou b 0 I)) 1 1))) F (pe ⟨#[UInt8.ofNat n]⟩):=by
 have h:RdS F (ua (V (ou b 0 I)) 1 1) 1 [vB n]:=RdS.new q rfl rfl (qX _);unfold Conv.bytesToString nE;simp only [am];refine ⟨#[vB n],?_,?_⟩
 ·have g:=h.row (a:=ou b 0 I) rfl 0 #[vB n] (by simp);rw [show (ou b 0 I).add 0=ou b 0 I from rfl] at g;exact eT (P:=P) g
 ·refine ⟨ByteArray.empty.push (UInt8.ofNat n),?_,?_⟩
  ·rw [<- Array.forIn_toList];simp []
  ·show (pe _)=_;simp [ByteArray.empty,ByteArray.emptyWithCapacity,ByteArray.push];rfl
structure Ln where
 left:Nat
 right:Δ
 cond:Nat
 mark:Nat
instance:Mem Ln where
 n:=4
 rep F x c:=∃r:Sl,c= #[vB x.left,r.v,vB x.cond,vB x.mark]/\RdS F r 1 (x.right.map vB)/\x.left<256/\x.cond<256/\x.mark<256/\∀y∈x.right,y<256
 len h:=by obtain ⟨r,rfl,_⟩:=h;rfl
 le hl h:=by obtain ⟨r,h1,h2,h3⟩:=h;exact ⟨r,h1,h2.le hl,h3⟩
 st h:=by obtain ⟨r,rfl,_⟩:=h;simp [ak,nE]
theorem kW (g:ο) (left:Int) {s:Sl} {F:PH}:ν 53 #[pe g,U left,s.v] F λr A=>(∃n,r=nL ((bz g left []).arr s n pi)/\RL A n dx.1)/\F.le A:=by refine We ?_;unfold So;refine (St.start F).new λb E h=> ?_;refine h.run (gS _) λ_ G F2 D l h=> ?_;obtain ⟨w,rfl,C⟩:=D;obtain ⟨n,rfl,B⟩:=C.out;refine ⟨_,rfl,rfl,?_⟩;refine h.put0 (w':=(bz g left []).arr s n pi) rfl rfl (by simp [ak,nE]) λF2 h=> ?_;exact ⟨_,rfl,h.whole0,⟨n,rfl,B.le h.le⟩,aa l h.le⟩
def lW (nn b:Nat):Sy:=if b % 14<9 then ⟨mY,((b % 14:Nat):Int)⟩ else ⟨mz,(((b % 14 - 9) % nn:Nat):Int)⟩
def aP (nn:Nat) (x:Ln):List Sy:=(x.right.take 4).map (lW nn)
def du (l:List Sy):Nat:=(l.filter (·.t)).length
def cU (left:Nat) (l:List Sy):Bool:=l.all λs=>s.t || decide ((left:Int)<s.i)
def bg (k:Nat):ο:=⟨#[112]⟩++⟨#[UInt8.ofNat (97+k)]⟩
def jb (g:Gr) (x:Ln):Pr:={bz (bg g.qa0.length) ((x.left % g.qa1.length:Nat):Int) (aP g.qa1.length x) with cond:=pg (ja x.cond g.qa4.length)}
def lineG (g:Gr) (x:Ln) (cn:Bool):Gr:=
 if du (aP g.qa1.length x)=0/\(cn=mY\/cU (x.left % g.qa1.length) (aP g.qa1.length x)=mz) then g
 else {g with qa0:=g.qa0++[cD (jb g x) x.mark]}
theorem iR (a b:Nat):sq (a:Int) (b:Int)=((a % b:Nat):Int):=by rw [Xu (by omega)];exact (Int.natCast_emod _ _).symm
theorem oE (l:List Sy) (s:Sy):du (l++[s])=du l+if s.t=mY then 1 else 0:=by unfold du;rw [List.filter_append,tT];congr 1;cases h:s.t<;>simp [h]
theorem lX (left:Nat) (l:List Sy) (s:Sy):cU left (l++[s])=(cU left l && (s.t || decide ((left:Int)<s.i))):=by simp [cU]
theorem Ge {G:PH} (l:List Sy):bS G l (l.map Sy.arr):=by
 induction l with
 |nil=>exact .nil
 |cons x l ih=>exact .cons rfl ih
structure LK (F G:PH) (b4:Nat) (g:Gr) (x:Ln) (c n t s sp l f rx n0:Sl):Prop where
 lF:F.le G
 q4:G b4=V (Y #[vB x.left,rx.v,vB x.cond,vB x.mark] 191)
 gs:GS G g c n t s sp l f
 rr:RdS G rx 1 (x.right.map vB)
 n0:RL G n0 dx.1
theorem LK.le {F G A:PH} {B:Nat} {g:Gr} {x:Ln} {c n t s sp l f w C:Sl} (h:LK F G B g x c n t s sp l f w C) (r:G.le A):LK F A B g x c n t s sp l f w C:=
 ⟨aa h.lF r,r _ _ h.q4,h.gs.le r,h.rr.le r,h.n0.le r⟩
section
variable {F G F1:PH} {b3 b4 b6 b8:Nat} {g:Gr} {x:Ln} {c n t s sp l f rx n0 sr:Sl} {cn:Bool}
abbrev LR (F:PH) (g':Gr):VR:=λr F'=>(∃w,r=nL w/\GV F' w g')/\F.le F'
theorem MD {g':Gr} {sp':Sl} (hF:F.le G) (r:GS G g' c n t s sp' l f) (st:St G F1 [pt b6 (Y zG 39),pt b3 (Y (g'.arr c n t s sp' l f) 39)]):sK b3 b6 (LR F g') F1:=by unfold sK;refine ⟨_,rfl,st.whole1,?_⟩;refine st.put0 (w':=g'.arr c n t s sp' l f) rfl rfl (by simp [ak,nE]) λw h=> ?_;exact ⟨_,rfl,h.whole0,⟨_,rfl,c,n,t,s,sp',l,f,rfl,r.le h.le⟩,aa hF h.le⟩
theorem IQ (K:LK F G b4 g x c n t s sp l f rx n0) (O:g.qa4.length<=6) (hp:g.qa0.length<=1000) (H:x.cond<256) (E:x.mark<256) (h:RL G sr (aP g.qa1.length x))
  (st:St G F1 [pt b8 (Y ((bz (bg g.qa0.length) ((x.left % g.qa1.length:Nat):Int) []).arr sr n0 pi) 64),pt b6 (Y zG 39),pt b3 (Y (g.arr c n t s sp l f) 39)]):
  gz b3 b4 b6 (V (ou b8 0 I)) mz (LR F {g with qa0:=g.qa0++[cD (jb g x) x.mark]}) F1:=by
 obtain ⟨_,_,T⟩:=Sn;unfold gz;refine ⟨λQ=>(by cases Q),λ_=> ?_⟩;have R:=K.gs.c.len;refine ⟨_,ld (st.le _ _ K.q4) rfl,_,st.ld2 rfl,?_⟩;dsimp only;rw [R];refine st.run (yS x.cond g.qa4.length H O _) λ_ G2 F2 A D st=> ?_;obtain ⟨⟨_,rfl,r⟩,-⟩:=A;obtain ⟨m,rfl,M⟩:=r.out;have K:=K.le D;have h:=h.le D;refine ⟨_,rfl,_,rfl,?_⟩;simp only [aI];refine st.putR0 (o:=3) (w':=(jb g x).arr sr m pi) rfl (by simp [ak,nE]) (by show 3+2<=13;decide) rfl λX st=> ?_;refine ⟨_,rfl,st.whole0,_,ld (st.le _ _ K.q4) rfl,?_⟩;refine st.run (qh5 (p:=jb g x) (m:=x.mark) ⟨sr,m,pi,rfl,h,M,.nil _⟩ E (by show (aP _ _).length<=1000;unfold aP;rw [ub,zZ];omega)) λ_ G3 F4 A N st=> ?_;obtain ⟨w,rfl,r⟩:=A;have K:=K.le N;refine ⟨w,rfl,?_⟩;refine st.put0 (w':=w) (Mem.len r) rfl (Mem.st r) λW st=> ?_;refine ⟨_,st.ld2 rfl,w,Mem.len r,st.whole0,?_⟩;refine St.grow T st K.gs.p r (by omega) rfl (λJ P st=>st.whole0) λC J P L B st=> ?_;have K:=K.le L;refine st.set2 (w':=Gr.arr {g with qa0:=g.qa0++[cD (jb g x) x.mark]} c n t s C l f) (vx rfl) rfl λF6 st=> ?_;exact MD (g':={g with qa0:=g.qa0++[cD (jb g x) x.mark]}) (sp':=C) K.lF ⟨K.gs.c,K.gs.n,K.gs.t,K.gs.s,B,K.gs.l,K.gs.f⟩ st.tail
theorem IR {w:Θ} (K:LK F G b4 g x c n t s sp l f rx n0) (st:St G F1 [pt b6 (Y zG 39),pt b3 (Y (g.arr c n t s sp l f) 39)]):gz b3 b4 b6 w mY (LR F g) F1:=by unfold gz;refine ⟨λ_=> ?_,λr=>(by cases r)⟩;refine ⟨_,rfl,st.whole1,?_⟩;refine st.put0 (w':=g.arr c n t s sp l f) rfl rfl (by simp [ak,nE]) λA h=> ?_;exact ⟨_,rfl,h.whole0,⟨_,rfl,c,n,t,s,sp,l,f,rfl,K.gs.le h.le⟩,aa K.lF h.le⟩
theorem ME (K:LK F G b4 g x c n t s sp l f rx n0) (J:g.qa4.length<=6) (M:g.qa0.length<=1000) (O:x.cond<256) (L:x.mark<256) {H:Int} {h:Bool} (D:H=((du (aP g.qa1.length x):Nat):Int)) (A:h=cU (x.left % g.qa1.length) (aP g.qa1.length x))
  (st:St G F1 [pt b8 (Y ((bz (bg g.qa0.length) ((x.left % g.qa1.length:Nat):Int) []).arr sr n0 pi) 64),own sr 130 2 (tZ ((aP g.qa1.length x).map Sy.arr)),pt b6 (Y zG 39),pt b3 (Y (g.arr c n t s sp l f) 39)]):
  sL cn b3 b4 b6 (V (ou b8 0 I)) H h (LR F (lineG g x cn)) F1:=by
 unfold sL;have bad:du (aP g.qa1.length x)=0/\(cn=mY\/cU (x.left % g.qa1.length) (aP g.qa1.length x)=mz)->gz b3 b4 b6 (V (ou b8 0 I)) mY (LR F (lineG g x cn)) F1:=λw=>by
  have e:lineG g x cn=g:=by unfold lineG;rw [Χ w]
  rw [e];exact IR K st.tail.tail
 have r:¬(du (aP g.qa1.length x)=0/\(cn=mY\/cU (x.left % g.qa1.length) (aP g.qa1.length x)=mz))->gz b3 b4 b6 (V (ou b8 0 I)) mz (LR F (lineG g x cn)) F1:=λw=>by
  have e:lineG g x cn={g with qa0:=g.qa0++[cD (jb g x) x.mark]}:=by unfold lineG;rw [Υ w]
  rw [e];refine st.front1.pinOwn (K:=λF1=>gz b3 b4 b6 (V (ou b8 0 I)) mz (LR F {g with qa0:=g.qa0++[cD (jb g x) x.mark]}) F1) λP N C st=> ?_;exact IQ (K.le N) J M O L ⟨_,Ge _,C⟩ st
 refine ⟨λE=>⟨λB=>bad ⟨by omega,.inl B⟩,λB=> ?_⟩,λE=>r λw=>E (by rw [D,w.1];rfl)⟩;cases hl':h with
 |true=>refine r λw=> ?_;rw [<- A,hl',B] at w;simp at w
 |false=>exact bad ⟨by omega,.inr (by rw [<- A,hl'])⟩
end
theorem yU (l:List Sy) (y:Sy):tZ (l.map Sy.arr)++y.arr.toList=tZ ((l++[y]).map Sy.arr):=by rw [yT,ba,xw,List.map_nil,cI]
section
variable {F G F1:PH} {b3 b4 b6 b8:Nat} {g:Gr} {x:Ln} {c n t s sp l f rx n0 sr:Sl} {cn:Bool}
theorem MF (K:LK F G b4 g x c n t s sp l f rx n0) (hn:g.qa4.length<=6) (hp:g.qa0.length<=1000) (h4:x.cond<256) (h5:x.mark<256) (h6:∀y∈x.right,y<256) (a1:g.qa1.length≠0) (_:g.qa1.length<=1000000)
  (st:St G F1 [pt b8 (Y ((bz (bg g.qa0.length) ((x.left % g.qa1.length:Nat):Int) []).arr pi n0 pi) 64),pt b6 (Y zG 39),pt b3 (Y (g.arr c n t s sp l f) 39)]):
  nU cn b3 b4 b6 s (V (ou b8 0 I)) (LR F (lineG g x cn)) F1:=by
 obtain ⟨_,_,T⟩:=qf7;have es:=K.gs.s.len;have er:=K.rr.len;rw [ub,xB] at er;unfold nU;have hL:(aP g.qa1.length x).length=min 4 x.right.length:=by unfold aP;rw [ub,zZ]
 refine ⟨λm tk la i F'=>∃(k:Nat) (R:PH) (sr:Sl),i=k/\k<=(aP g.qa1.length x).length/\m=4 - k/\tk=((du ((aP g.qa1.length x).take k):Nat):Int)/\la=cU (x.left % g.qa1.length) ((aP g.qa1.length x).take k)/\LK F R b4 g x c n t s sp l f rx n0/\sr.len=k/\
  St R F' [pt b8 (Y ((bz (bg g.qa0.length) ((x.left % g.qa1.length:Nat):Int) []).arr sr n0 pi) 64),own sr 130 2 (tZ (((aP g.qa1.length x).take k).map Sy.arr)),pt b6 (Y zG 39),pt b3 (Y (g.arr c n t s sp l f) 39)],4,
  ⟨0,G,pi,rfl,yv _,rfl,rfl,rfl,K,rfl,(st.nilOwn 130 2).swap⟩,?_⟩
 rintro m tk la i F' ⟨k,R,sr,rfl,hk,rfl,rfl,rfl,K,a5,st⟩;unfold Jr;have A:k=(aP g.qa1.length x).length->sL cn b3 b4 b6 (V (ou b8 0 I)) ((du ((aP g.qa1.length x).take k):Nat):Int) (cU (x.left % g.qa1.length) ((aP g.qa1.length x).take k)) (LR F (lineG g x cn)) F':=λe=>by rw [e,wy] at st ⊢;exact ME K hn hp h4 h5 rfl rfl st
 refine ⟨_,ld (st.le _ _ K.q4) rfl,λL=>⟨λW=> ?_,λW=>A (by omega)⟩,λL=>A (by omega)⟩;have B:k<x.right.length:=by omega
 have a4:k<(aP g.qa1.length x).length:=by omega
 obtain ⟨ab,ao,J,_⟩:=K.rr.cells (by omega);have w:=(K.rr.le st.le).cell J (i:=k) (by rw [ub];exact B);rw [Yl] at w;have a0:x.right[k]<256:=h6 _ (U9 B);have H:(aP g.qa1.length x)[k]? =V (lW g.qa1.length x.right[k]):=by unfold aP;rw [yc,YC (by omega),N5 B];rfl
 have h:(aP g.qa1.length x).take (k+1)=(aP g.qa1.length x).take k++[lW g.qa1.length x.right[k]]:=by rw [Wv,H];rfl
 generalize x.right[k]=y at*;have ey:sq (i64.wrap (y:Int)) (14:Int)=((y % 14:Nat):Int):=by rw [aJ (by omega)];exact iR y 14
 refine ⟨_,ld (st.le _ _ K.q4) rfl,_,J,by omega,L,(y:Int),by rw [N4,xB];exact w,?_⟩;dsimp only;rw [ey];have N:i64.wrap ((k:Int)+1)=((k+1:Nat):Int):=aC (n:=4) (by omega) (by decide);have a2:du ((aP g.qa1.length x).take k)<=4:=Wz (Zf _ _) (by rw [zZ];omega);refine ⟨λh9=> ?_,λh9=> ?_⟩
 ·have r:lW g.qa1.length y=⟨mY,((y % 14:Nat):Int)⟩:=by unfold lW;rw [Χ (by omega)]
  refine ⟨_,rfl,?_⟩;simp only [aI];refine ⟨sr,st.ld0 rfl,?_⟩;refine st.runv (B2 _ _) λG2 F2 O st=> ?_;refine ⟨_,rfl,st.ld0 rfl,rfl,?_⟩;refine st.push1 T (c:=Sy.arr ⟨mY,((y % 14:Nat):Int)⟩) rfl (by simp [ak]) (by omega) λD P F3 Q st X=> ?_;rw [yU,<- r,<- h] at st;refine st.set0 (w':=(bz (bg g.qa0.length) ((x.left % g.qa1.length:Nat):Int) []).arr D n0 pi) (vx rfl) rfl λF4 st=> ?_;unfold sM;rw [N];refine ⟨4 - (k+1),by omega,k+1,P,D,rfl,by omega,rfl,?_,?_,K.le (aa O Q),by omega,st⟩
  ·rw [h,oE,r,aJ (by omega)];rfl
  ·rw [h,lX,r];simp
 ·have a3:y % 14 - 9<5:=by omega
  have ez:sq (i64.wrap (((y % 14:Nat):Int) - (9:Int))) (s.len:Int)=(((y % 14 - 9) % g.qa1.length:Nat):Int):=by rw [es,show ((y % 14:Nat):Int) - 9=((y % 14 - 9:Nat):Int) by omega,aJ (by omega),iR]
  have r:lW g.qa1.length y=⟨mz,(((y % 14 - 9) % g.qa1.length:Nat):Int)⟩:=by unfold lW;rw [Υ (by omega)]
  refine ⟨_,rfl,?_⟩;simp only [aI];rw [ez];refine ⟨sr,st.ld0 rfl,by omega,?_⟩;refine st.runv (JM _ _) λG2 F2 O st=> ?_;refine ⟨_,rfl,st.ld0 rfl,rfl,?_⟩;refine st.push1 T (c:=Sy.arr ⟨mz,(((y % 14 - 9) % g.qa1.length:Nat):Int)⟩) rfl (by simp [ak]) (by omega) λD P F3 Q st X=> ?_;rw [yU,<- r,<- h] at st;refine st.set0 (w':=(bz (bg g.qa0.length) ((x.left % g.qa1.length:Nat):Int) []).arr D n0 pi) (vx rfl) rfl λF4 st=> ?_;have M:((du ((aP g.qa1.length x).take k):Nat):Int)=((du ((aP g.qa1.length x).take (k+1)):Nat):Int):=by rw [h,oE,r];rfl
  have E:cU (x.left % g.qa1.length) ((aP g.qa1.length x).take (k+1))=(cU (x.left % g.qa1.length) ((aP g.qa1.length x).take k) && decide (((x.left % g.qa1.length:Nat):Int)<(((y % 14 - 9) % g.qa1.length:Nat):Int))):=by rw [h,lX,r];simp
  unfold sM;rw [N];refine ⟨λC=>⟨by omega,((x.left % g.qa1.length:Nat):Int),st.ld0 rfl,4 - (k+1),by omega,k+1,P,D,rfl,by omega,rfl,M,?_,K.le (aa O Q),by omega,st⟩,λC=>⟨4 - (k+1),by omega,k+1,P,D,rfl,by omega,rfl,M,?_,K.le (aa O Q),by omega,st⟩⟩
  ·rw [E,C,Wy]
  ·rw [E,C,W5]
end
theorem Gf {F:PH} {w v:Γ} {g:Gr} {x:Ln} {cn:Bool} (hg:GV F w g) (hx:Mem.rep F x v) (hn:g.qa4.length<=6) (hp:g.qa0.length<=150) (K:g.qa1.length≠0) (P:g.qa1.length<=1000000):
  ν 94 #[nL w,nL v,nS cn] F (LR F (lineG g x cn)):=by
 obtain ⟨c,n,t,s,sp,l,f,rfl,N⟩:=hg;obtain ⟨rx,rfl,hr,h3,h4,h5,h6⟩:=hx;have es:=N.s.len;have ep:=N.p.len;refine aae ?_;unfold Wl;refine (St.start F).new λR F1 st=> ?_;refine st.newG λb4 G1 F2 L q4 _ st=> ?_;refine st.new λW F3 st=> ?_;have ec:u8.wrap (i64.wrap ((97:Int)+(sp.len:Int)))=((97+g.qa0.length:Nat):Int):=by rw [ep,show (97:Int)+((g.qa0.length:Nat):Int)=((97+g.qa0.length:Nat):Int) by omega,aJ (by omega),DH (by omega)]
 have el:sq (i64.wrap (x.left:Int)) (s.len:Int)=((x.left % g.qa1.length:Nat):Int):=by rw [es,aJ (by omega),iR]
 refine ⟨_,st.ld1 rfl,_,st.ld1 rfl,_,ld (st.le _ _ q4) rfl,by omega,?_⟩;rw [ec,el];have fin:∀{G O:PH} {E:Nat} {B:Sl},G1.le G->RL G B dx.1->St G O [pt E (Y ((bz (bg g.qa0.length) ((x.left % g.qa1.length:Nat):Int) []).arr pi B pi) 64),pt W (Y zG 39),pt R (Y (g.arr c n t s sp l f) 39)]->
   nU cn R b4 W s (V (ou E 0 I)) (LR F (lineG g x cn)) O:=λ{G O E B} J D st=>
  MF ⟨aa L J,J _ _ q4,N.le (aa L J),hr.le (aa L J),D⟩ hn (by omega) h4 h5 h6 K P st
 have H:(ByteArray.mk #[112]).size+(ByteArray.mk #[UInt8.ofNat (97+g.qa0.length)]).size<=9223372036854775807:=by show 1+1<=9223372036854775807;decide
 refine ⟨?_,?_⟩
 ·refine st.newG λM G2 F4 C h _ st=> ?_;refine ⟨_,lV (st.le _ _ h),H,?_,?_⟩
  ·refine st.run (kW (bg g.qa0.length) _) λ_ G3 Q r A st=> ?_;obtain ⟨B,rfl,D⟩:=r;refine ⟨_,rfl,lV (st.le _ _ (A _ _ h)),ld (st.le _ _ (A _ _ (C _ _ q4))) rfl,st.ld1 rfl,?_⟩;refine st.new λE F6 st=> ?_;refine st.put0 (w':=(bz (bg g.qa0.length) ((x.left % g.qa1.length:Nat):Int) []).arr pi B pi) rfl rfl (by simp [ak,nE]) λX st=> ?_;exact fin (aa C A) D st
  ·refine st.new λE F6 st=> ?_;refine st.run (kW (bg g.qa0.length) _) λ_ G3 Q r A st=> ?_;obtain ⟨B,rfl,D⟩:=r;refine ⟨_,rfl,lV (st.le _ _ (A _ _ h)),ld (st.le _ _ (A _ _ (C _ _ q4))) rfl,st.ld2 rfl,?_⟩;refine st.put0 (w':=(bz (bg g.qa0.length) ((x.left % g.qa1.length:Nat):Int) []).arr pi B pi) rfl rfl (by simp [ak,nE]) λX st=> ?_;exact fin (aa C A) D st
 ·refine st.new λE F6 st=> ?_;refine st.newG λM G2 F4 C h _ st=> ?_;refine ⟨_,lV (st.le _ _ h),H,?_⟩;refine st.run (kW (bg g.qa0.length) _) λ_ G3 Q r A st=> ?_;obtain ⟨B,rfl,D⟩:=r;refine ⟨_,rfl,lV (st.le _ _ (A _ _ h)),ld (st.le _ _ (A _ _ (C _ _ q4))) rfl,st.ld2 rfl,?_⟩;refine st.put0 (w':=(bz (bg g.qa0.length) ((x.left % g.qa1.length:Nat):Int) []).arr pi B pi) rfl rfl (by simp [ak,nE]) λX st=> ?_;exact fin (aa C A) D st
theorem IS {F:PH} {v:Γ} {d:vE} {n:Nat} (hd:DV F v d) (W:x7 (d.1.length+4)) (hl:d.1.length<=1000000):ν 162 #[nL v,U n] F λr L=>r=nS (sj d n)/\F.le L:=by
 obtain ⟨s,rfl,H⟩:=hd.out;refine qdO ?_;unfold Pu;refine (St.start F).newG λb2 G1 F1 O q1 _ h=> ?_;refine ⟨_,rfl,ai (h.le _ _ q1),?_⟩;refine h.runv (GD (DV.mk (H.le O)) W) λG2 F2 P h=> ?_;have B:=aa O P;have er:=H.len;refine ⟨_,rfl,λD=>⟨?_,aa B h.le⟩,λD=> ?_⟩
 ·have:sj d n=mz:=w6.2 λM=>D M.1;rw [this]
 have D:chk d=0:=Classical.not_not.1 D;refine bC (xp · (n:Int) b2 _) d.1.length (λk L=>G2.le L/\∀b∈d.1.take k,b.v<n) ⟨h.le,by simp⟩ ?_;rintro k F3 N hk ⟨K,g⟩ next;unfold xp;have Q:=K _ _ (P _ _ q1);have A:=aa B K;refine ⟨_,ld Q rfl,λG=>⟨_,ld Q rfl,t6 (H.le A) (by decide) (by omega) G λa X x J w E=> ?_⟩,λR=> ?_⟩
 ·rw [N4] at J;rw [show X=aW x from E] at w;refine ⟨x.v,aE w rfl,λhb=>⟨?_,A⟩,λhb=> ?_⟩
  ·have:sj d n=mz:=w6.2 λM=>by have:=M.2 x (vQ J);omega
   rw [this]
  ·rw [aC (n:=d.1.length) (by omega) (by omega)];refine next _ (by omega) ⟨K,λb C=> ?_⟩;rw [bD J] at C;rcases vd.1 C with h|h
   ·exact g b h
   ·rw [vy.1 h];omega
 ·have e:k=d.1.length:=by omega
  subst e;rw [wy] at g;unfold Eh;exact ⟨by rw [cP.2 ⟨D,g⟩],A⟩
def gy (x:Fi):Prop:=((x.k=1\/x.k=2)\/(x.par=0/\x.pos=0/\x.ch=0))/\((x.k=1\/x.k=2)->x.qa2=[])/\((x.k=3\/x.k=4)\/x.left=0)/\(x.k=5\/x.tok=0)
open Classical in
theorem Gg {F:PH} {w:Γ} {x:Fi} (hx:Mem.rep F x w):ν 163 #[nL w] F λr G=>r=nS (decide (gy x))/\F.le G:=by
 obtain ⟨tt,nn,rfl,ht,_⟩:=hx;have et:=ht.len;refine qdP ?_;unfold Pv;refine fresh λO H l1 q _=> ?_;have R:∀{b:Bool},(b=mY↔gy x)->(nS b=nS (decide (gy x))/\F.le H):=λ{b} h=>⟨by congr 1;rw [wi,h,δ],l1⟩;have no:¬gy x->(nS mz=nS (decide (gy x))/\F.le H):=λh=>R ⟨λh=>(by cases h),λg=>absurd g h⟩;have Q:(x.qa2=[])↔¬(0:Int)<(tt.len:Int):=by
  rw [et];constructor
  ·intro h;rw [h];simp
  ·intro h;exact V5 (by omega)
 have W:∀beside:Bool,(beside=mY↔(x.k=3\/x.k=4))->((x.k=1\/x.k=2)\/(x.par=0/\x.pos=0/\x.ch=0))->((x.k=1\/x.k=2)->x.qa2=[])->
   qi O beside (λr G=>r=nS (decide (gy x))/\F.le G) H:=λbeside N C B=>by
  unfold qi;refine ⟨λA=>⟨_,ld q rfl,λD=>R ⟨λ_=>⟨C,B,.inl (N.1 A),.inl D⟩,λ_=>rfl⟩,λD=>⟨_,ld q rfl,R ?_⟩⟩,λA=>⟨_,ld q rfl,λM=>⟨_,ld q rfl,λD=>R ⟨λ_=>⟨C,B,.inr M,.inl D⟩,λ_=>rfl⟩,λD=>⟨_,ld q rfl,R ?_⟩⟩,λM=>no λg=> ?_⟩⟩
  ·rw [δ];exact ⟨λh=>⟨C,B,.inl (N.1 A),.inr h⟩,λg=>g.2.2.2.resolve_left D⟩
  ·rw [δ];exact ⟨λh=>⟨C,B,.inr M,.inr h⟩,λg=>g.2.2.2.resolve_left D⟩
  ·rcases g.2.2.1 with h|h
   ·rw [N.2 h] at A;cases A
   ·exact M h
 have X:((x.k=1\/x.k=2)\/(x.par=0/\x.pos=0/\x.ch=0))->((x.k=1\/x.k=2)->x.qa2=[])->jH O (λr G=>r=nS (decide (gy x))/\F.le G) H:=λC B=>by unfold jH;refine ⟨_,ld q rfl,λK=>W mY ⟨λ_=> .inl K,λ_=>rfl⟩ C B,λK=>⟨_,ld q rfl,W _ ?_ C B⟩⟩;rw [δ];exact ⟨λh=> .inr h,λh=>h.resolve_left K⟩
 have P:∀L:Bool,(L=mY↔(x.k=1\/x.k=2))->qj O L (λr G=>r=nS (decide (gy x))/\F.le G) H:=λL J=>by
  unfold qj;cases L with
  |true=>have E:=J.1 rfl;exact ⟨λh=>(by cases h),λ_=>⟨λ_=>⟨_,ld q rfl,λh=>no λg=>Q.1 (g.2.1 E) h,λh=>X (.inl E) λ_=>Q.2 h⟩,λh=>(by cases h)⟩⟩
  |false=>
   have E:¬(x.k=1\/x.k=2):=λh=>by have:=J.2 h;cases this
   refine ⟨λ_=>⟨_,ld q rfl,λh=>no λg=>h (g.1.resolve_left E).1,λC=>⟨_,ld q rfl,λh=>no λg=>h (g.1.resolve_left E).2.1,λB=>⟨_,ld q rfl,λh=>no λg=>h (g.1.resolve_left E).2.2,λK=>⟨λh=>(by cases h),λ_=>X (.inr ⟨Classical.not_not.1 C,Classical.not_not.1 B,Classical.not_not.1 K⟩) λh=>absurd h E⟩⟩⟩⟩,λh=>(by cases h)⟩
 refine ⟨_,ld q rfl,λh=>P mY ⟨λ_=> .inl h,λ_=>rfl⟩,λh=>⟨_,ld q rfl,P _ ?_⟩⟩;rw [δ];exact ⟨λh=> .inr h,λh'=>h'.resolve_left h⟩
def jX (lit:Bool) (t:Tk):Bool:=if lit then !decide (t.lit=emp) else decide (t.cls=0)
open Classical in
theorem uw {F:PH} {v:Γ} {g:Gr} (hg:GV F v g) {sl:Sl} {l:Φ} (hl:RL F sl l) (a7:l.length<=1000000000) (A:Bool):ν 164 #[nL v,sl.v,nS A] F λr D=>r=nS (decide (fN g (jX A) l))/\F.le D:=by
 obtain ⟨c,n,t,s,p,lv,f,rfl,hs⟩:=hg;have et:=hs.t.len;have el:=hl.len;refine qdQ ?_;unfold Pw;refine fresh λb1 F1 l1 q1 _=> ?_;have hs:=hs.le l1;have hl:=hl.le l1;have no:∀{D:PH},F1.le D->¬fN g (jX A) l->(nS mz=nS (decide (fN g (jX A) l))/\F.le D):=λ{D} l h=>⟨by rw [η h],aa l1 l⟩;refine bC (xq · sl A b1 _) l.length (λj D=>F1.le D/\(∀n∈l.take j,0<=n/\∃t,g.qa2[n.toNat]? =V t/\jX A t=mY)/\∀(i:Nat) (x y:Int),i+1<j->l[i]? =V x->l[i+1]? =V y->x<y)
  ⟨au _,by simp,λi x y h=>by omega⟩ ?_
 rintro j F2 N hj ⟨J,i1,i2⟩ next;unfold xq;refine ⟨λH=> ?_,λa8=> ?_⟩
 ·have H:j<l.length:=by omega
  have L:=N5 H;generalize l[j]=x at L;obtain ⟨a,cc,ha,hr,hc⟩:=(hl.le J).get (by decide) L;rw [show cc= #[U x] from hc] at hr;have B:F2.cell (nR a (nT (j:Int)*1))=V (U x):=by rw [N4];exact aE hr rfl
  have a0:x∈l:=vQ L;have p1:=J _ _ q1;have UQ:¬(0<=x/\x<g.qa2.length)->(nS mz=nS (decide (fN g (jX A) l))/\F.le F2):=λh=>no J λR=>by obtain ⟨h0,t',ht,_⟩:=R.2.1 x a0;have:=(N6.1 ht).1;exact h ⟨h0,by omega⟩
  refine ⟨a,ha,by omega,by omega,x,B,λh=>UQ (by omega),λx0=>⟨a,ha,by omega,by omega,x,B,_,ld p1 rfl,λh=>UQ (by omega),λx1=> ?_⟩⟩;have K:(∀y,0<j->l[j - 1]? =V y->y<x)->ql N sl A b1 (j:Int) (λr D=>r=nS (decide (fN g (jX A) l))/\F.le D) F2:=λO=>by
   unfold ql;refine ⟨_,ld p1 rfl,a,ha,by omega,by omega,x,B,t6 (hs.t.le J) (by decide) (by omega) (by omega) λa2 c2 y E a3 G=>⟨c2,Mem.len G,a3,?_⟩⟩;refine var1 (Mem.st G) (λb F3 l3 q3=> ?_) rfl (Mem.len G);have X:=aa J l3;obtain ⟨pp,nn,rfl,_,_⟩:=G;have bad:jX A y=mz->(nS mz=nS (decide (fN g (jX A) l))/\F.le F3):=λhk=>no X λR=>by obtain ⟨h0,t',ht,a4⟩:=R.2.1 x a0;rw [E] at ht;cases ht;rw [a4] at hk;cases hk
   have M:jX A y=mY->qk N sl A b1 (j:Int) (λr D=>r=nS (decide (fN g (jX A) l))/\F.le D) F3:=λhk=>by
    unfold qk;rw [aC H];refine next _ H ⟨X,λm P=> ?_,λi u w hi hu hw=> ?_⟩
    ·rw [bD L] at P;rcases vd.1 P with P|P
     ·exact i1 m P
     ·rw [vy.1 P];exact ⟨by omega,y,E,hk⟩
    ·by_cases e:i+1<j
     ·exact i2 i u w e hu hw
     ·have e:j=i+1:=by omega
      subst e;rw [L] at hw;cases hw;exact O u (by omega) hu
   refine ⟨λC=>⟨y.lit,ld q3 rfl,?_⟩,λC=>⟨y.cls,ld q3 rfl,λh=>bad (by unfold jX;rw [C];simpa using h),λh=>M (by unfold jX;rw [C];simpa using h)⟩⟩;dsimp only;rw [mj];exact ⟨λh=>bad (by unfold jX;rw [C];simpa using h),λh=>M (by unfold jX;rw [C];simpa using h)⟩
  refine ⟨λQ=> ?_,λQ=>K λy h=>by omega⟩;have Q:0<j:=by omega
  have ew:i64.wrap ((j:Int) - 1)=((j - 1:Nat):Int):=by rw [aJ (by omega)];omega
  rw [ew];have E:=N5 (show j - 1<l.length by omega);generalize l[j - 1]=y at E;obtain ⟨a',a5,a1,W,a6⟩:=(hl.le J).get (by decide) E;rw [show a5= #[U y] from a6] at W;refine ⟨a,ha,by omega,by omega,x,B,a',a1,by omega,by omega,y,by rw [N4];exact aE W rfl,λh=>no J λR=> ?_,λh=>K λz _ hz=> ?_⟩
  ·have:=R.2.2 (j - 1) y x E (by rw [show j - 1+1=j by omega];exact L);omega
  ·rw [E] at hz;cases hz;omega
 ·have e:j=l.length:=by omega
  subst e;rw [wy] at i1;unfold Ei;refine ⟨?_,aa l1 J⟩;congr 1;rw [wi,δ,δ];constructor
  ·intro h;refine ⟨λe=>by rw [e] at el;simp at el;omega,i1,λi x y L E=>i2 i x y ?_ L E⟩;exact (N6.1 E).1
  ·intro h;have:l.length≠0:=λe=>h.1 (V5 e);omega
open Classical in
theorem BB {F:PH} {v w:Γ} {g:Gr} {x:Fi} (hg:GV F v g) (hx:Mem.rep F x w) (hf:x.cond.1.length<=1000000) (a3:x.qa2.length<=1000000000):ν 131 #[nL v,nL w] F λr B=>r=nS (decide (co g x))/\F.le B:=by
 have a6:=hg;have b8:=hx;obtain ⟨c,n,t,s,p,lv,f,rfl,hs⟩:=hg;obtain ⟨tt,nn,rfl,ht,hd⟩:=hx;have ec:=hs.c.len;have et:=hs.t.len;have es:=hs.s.len;have ep:=hs.p.len;refine qef ?_;unfold Po;refine (St.start F).newG λb2 G1 F1 l1 q2 _ h=> ?_;refine h.newG λb3 G2 F2 l2 q3 _ h=> ?_;have q2:=l2 _ _ q2;have l1:=aa l1 l2;have R:∀{B:PH} {b:Bool},G2.le B->(b=mY↔co g x)->(nS b=nS (decide (co g x))/\F.le B):=λ{B b} l h=>⟨by congr 1;rw [wi,h,δ],aa l1 l⟩;have no:∀{B:PH},G2.le B->¬co g x->(nS mz=nS (decide (co g x))/\F.le B):=λl h=>R l ⟨λh=>(by cases h),λA=>absurd A h⟩;have kr:co g x->1<=x.k/\x.k<=5:=λh=>by rcases h.2 with h|h|h<;>have:=h.1<;>omega
 have pl:co g x->gy x:=λh=>by
  rcases h.2 with ⟨k,_,a,b,c⟩|⟨k,_,a,b,c,d⟩|⟨k,_,a,b,c,d⟩
  ·exact ⟨.inl k,λ_=>c,.inr a,.inr b⟩
  ·exact ⟨.inr ⟨a,b,c⟩,λh=>by omega,.inl k,.inr d⟩
  ·exact ⟨.inr ⟨a,b,c⟩,λh=>by omega,.inr d,.inl k⟩
 refine ⟨_,ld (h.le _ _ q3) rfl,λhk=>no h.le λA=>by have:=kr A;omega,λc6=>⟨_,ld (h.le _ _ q3) rfl,λhk=>no h.le λA=>by have:=kr A;omega,λa5=>⟨#[nn.v,U x.cond.2],rfl,fX (h.le _ _ q3) rfl,_,ld (h.le _ _ q2) rfl,?_⟩⟩⟩;dsimp only;rw [ec];refine h.runv (IS (d:=x.cond) (DV.mk (hd.le l1)) (by show _<=_;omega) hf) λG3 F3 l3 h=> ?_;replace no:∀{B:PH},G3.le B->¬co g x->(nS mz=nS (decide (co g x))/\F.le B):=λl h=>no (aa l3 l) h;have q3:=l3 _ _ q3;have q2:=l3 _ _ q2;have D:=aa l1 l3;refine ⟨_,rfl,λL=>no h.le λA=>(by rw [cP.2 A.1] at L;cases L),λL=>⟨_,rfl,ai (h.le _ _ q3),?_⟩⟩;have N:iz x.cond g.qa4.length:=cP.1 (by simpa using L);refine h.runv (Gg (Mem.le D b8)) λG4 F4 l4 h=> ?_;replace no:∀{B:PH},G4.le B->¬co g x->(nS mz=nS (decide (co g x))/\F.le B):=λl h=>no (aa l4 l) h;replace R:∀{B:PH} {b:Bool},G4.le B->(b=mY↔co g x)->(nS b=nS (decide (co g x))/\F.le B):=λl h=>R (aa l3 (aa l4 l)) h;have q3:=l4 _ _ q3;have q2:=l4 _ _ q2;have D:=aa D l4;refine ⟨_,rfl,λL=>no h.le λA=>(by rw [decide_eq_true (pl A)] at L;cases L),λL=> ?_⟩;have b5:gy x:=by simpa using L
 obtain ⟨P1,P2,P3,P4⟩:=b5;have j2:¬(x.k=1\/x.k=2)->∀q:Bool,(q=mY↔(x.k=3\/x.k=4))->p7 b2 b3 q (λr B=>r=nS (decide (co g x))/\F.le B) F4:=λE q hq=>by
  have M:=P1.resolve_left E;unfold p7;refine ⟨λJ=> ?_,λJ=> ?_⟩
  ·have hk:=hq.1 J;have h5:x.tok=0:=P4.resolve_left (by omega);have key:co g x↔(0<=x.left/\x.left<g.qa1.length/\fN g (λt=>decide (t.cls=0)) x.qa2):=by
    constructor
    ·intro A;rcases A.2 with h|h|h
     ·exact absurd h.1 E
     ·exact h.2.1
     ·have:=h.1;omega
    ·intro h;exact ⟨N,.inr (.inl ⟨hk,h,M.1,M.2.1,M.2.2,h5⟩)⟩
   refine ⟨_,ld (h.le _ _ q3) rfl,λK=>⟨_,ld (h.le _ _ q3) rfl,_,ld (h.le _ _ q2) rfl,λh2=>⟨_,rfl,ai (h.le _ _ q2),_,ld (h.le _ _ q3) rfl,?_⟩,λh2=>no h.le λA=> ?_⟩,λK=>no h.le λA=>K (key.1 A).1⟩
   ·refine h.runv (uw (GV.le a6 D) (ht.le D) a3 mz) λG5 F5 l5 h=>⟨_,rfl,R (aa l5 h.le) ?_⟩;rw [δ,key];exact ⟨λh=>⟨K,by omega,h⟩,λh=>h.2.2⟩
   ·have:=(key.1 A).2.1;omega
  ·have hk:¬(x.k=3\/x.k=4):=λh=>by rw [hq.2 h] at J;cases J
   have a5:x.k=5:=by omega
   have h5:x.left=0:=P3.resolve_left hk;have key:co g x↔(fN g (λt=> !decide (t.lit=emp)) x.qa2/\0<=x.tok/\∃t,g.qa2[x.tok.toNat]? =V t/\t.cls=0/\t.lit=emp):=by
    constructor
    ·intro A;rcases A.2 with h|h|h
     ·exact absurd h.1 E
     ·exact absurd h.1 hk
     ·exact h.2.1
    ·intro h;exact ⟨N,.inr (.inr ⟨a5,h,M.1,M.2.1,M.2.2,h5⟩)⟩
   have a8:∀{B:PH},G4.le B->¬(0<=x.tok/\x.tok<g.qa2.length)->(nS mz=nS (decide (co g x))/\F.le B):=λl h=>no l λA=>by obtain ⟨_,K,y,X,_⟩:=key.1 A;have:=(N6.1 X).1;exact h ⟨K,by omega⟩
   refine ⟨_,ld (h.le _ _ q3) rfl,λK=>a8 h.le (by omega),λK=>⟨_,ld (h.le _ _ q3) rfl,_,ld (h.le _ _ q2) rfl,λh2=>a8 h.le (by omega),λh2=>⟨_,rfl,ai (h.le _ _ q2),_,ld (h.le _ _ q3) rfl,?_⟩⟩⟩;refine h.runv (uw (GV.le a6 D) (ht.le D) a3 mY) λG5 F5 l5 h=>⟨_,rfl,λL=>no (aa l5 h.le) λA=> ?_,λL=> ?_⟩
   ·rw [ε (show fN g (jX mY) x.qa2 from (key.1 A).1)] at L;cases L
   have a4:fN g (jX mY) x.qa2:=by simpa using L
   have b7:=aa D l5;refine ⟨_,ld (h.le _ _ (l5 _ _ q2)) rfl,_,ld (h.le _ _ (l5 _ _ q3)) rfl,h.ix (hs.t.le b7) (by decide) (by omega) (by omega) λa cc y X hr G=>⟨cc,Mem.len G,hr,?_⟩⟩;have a9:=Mem.st G;have c5:cc.size=7:=Mem.len G;obtain ⟨pp,c7,rfl,_,_⟩:=G;refine h.var a9 (λb6 G6 F6 l6 q6 h=> ?_) rfl rfl;refine ⟨_,ld (h.le _ _ q6) rfl,λa1=>⟨_,ld (h.le _ _ q6) rfl,R (aa l5 (aa l6 h.le)) ?_⟩,λa1=>no (aa l5 (aa l6 h.le)) λA=> ?_⟩
   ·rw [mj,δ,key];constructor
    ·intro hl;exact ⟨a4,by omega,y,X,a1,hl⟩
    ·rintro ⟨_,_,y',O,_,hl⟩;rw [X] at O;cases O;exact hl
   ·obtain ⟨_,_,y',O,b0,_⟩:=key.1 A;rw [X] at O;cases O;exact a1 b0
 have j1:∀q:Bool,(q=mY↔(x.k=1\/x.k=2))->qe b2 b3 x.k q (λr B=>r=nS (decide (co g x))/\F.le B) F4:=λq hq=>by
  unfold qe;refine ⟨λJ=> ?_,λJ=> ?_⟩
  ·have hk:=hq.1 J;have key:co g x↔oK g x:=by
    constructor
    ·intro A;rcases A.2 with h|h|h
     ·exact h.2.1
     ·have:=h.1;omega
     ·have:=h.1;omega
    ·intro h;exact ⟨N,.inl ⟨hk,h,P3.resolve_left (by omega),P4.resolve_left (by omega),P2 hk⟩⟩
   have UQ:¬(0<=x.par/\x.par<g.qa0.length/\0<=x.ch/\x.ch<g.qa0.length)->(nS mz=nS (decide (co g x))/\F.le F4):=λhn=>no h.le λA=>by obtain ⟨K,J,_,p',q',C,P,_⟩:=key.1 A;have:=(N6.1 C).1;have:=(N6.1 P).1;exact hn (by omega)
   have p2:=h.le _ _ q2;have W:=h.le _ _ q3;refine ⟨_,ld W rfl,λK=>UQ (by omega),λK=>⟨_,ld W rfl,_,ld p2 rfl,λK=>UQ (by omega),λh2=>⟨_,ld W rfl,λK=>UQ (by omega),λh3=>⟨_,ld W rfl,_,ld p2 rfl,λK=>UQ (by omega),λh4=>⟨_,ld p2 rfl,_,ld W rfl,?_⟩⟩⟩⟩⟩;refine h.ix (hs.p.le D) (by decide) (by omega) (by omega) λa cc y X hr G=> ?_;obtain ⟨rr,n2,c4,rfl,a7,_,_⟩:=G;have er:=a7.len;have b1:¬(0<=x.pos/\x.pos<y.right.length)->(nS mz=nS (decide (co g x))/\F.le F4):=λhn=>no h.le λA=>by obtain ⟨_,_,K,p',q',C,_,H⟩:=key.1 A;rw [X] at C;cases C;have:=(N6.1 H).1;exact hn (by omega)
   refine ⟨rr,aM hr rfl,_,ld W rfl,λh5=>⟨_,ld W rfl,λh6=>⟨_,ld W rfl,?_⟩,λh6=>b1 (by omega)⟩,λh5=>b1 (by omega)⟩;have c3:x.pos.toNat<y.right.length:=by omega
   have M:=N5 c3;generalize y.right[x.pos.toNat]=z at M;obtain ⟨a2,c2,b4,a0,b9⟩:=(a7.le h.le).get (by decide) M;rw [show c2=z.arr from b9] at a0;refine ⟨a2,b4,by omega,by omega,z.t,aE a0 rfl,λQ=>⟨_,ld W rfl,a2,b4,by omega,by omega,z.i,aM a0 rfl,_,ld p2 rfl,_,ld W rfl,?_⟩,λQ=>no h.le λA=> ?_⟩
   ·refine h.ix (hs.p.le D) (by decide) (by omega) (by omega) λa cc u hu hr G=> ?_;obtain ⟨r3,n3,c8,rfl,_,_,_⟩:=G;refine ⟨u.left,aM hr rfl,R h.le ?_⟩;rw [δ,key];have Q:z.t=mz:=by simpa using Q
    constructor
    ·intro he;refine ⟨by omega,by omega,by omega,y,u,X,hu,?_⟩;rw [M,<- he,<- Q]
    ·rintro ⟨_,_,_,p',q',C,P,H⟩;rw [X] at C;cases C;rw [hu] at P;cases P;rw [M] at H;cases H;rfl
   ·obtain ⟨_,_,_,p',q',C,P,H⟩:=key.1 A;rw [X] at C;cases C;rw [M] at H;cases H;cases Q
  ·have E:¬(x.k=1\/x.k=2):=λh=>by rw [hq.2 h] at J;cases J
   refine ⟨λh3=>j2 E _ ?_,λh3=>j2 E _ ?_⟩
   ·rw [δ];exact ⟨λh=> .inl h,λ_=>h3⟩
   ·rw [δ];exact ⟨λh=> .inr h,λh=>h.resolve_left h3⟩
 refine ⟨_,ld (h.le _ _ q3) rfl,λJ=>j1 _ ?_,λJ=>j1 _ ?_⟩
 ·rw [δ];exact ⟨λh=> .inl h,λ_=>J⟩
 ·rw [δ];exact ⟨λh=> .inr h,λh=>h.resolve_left J⟩
theorem oF {F:PH} {v:Γ} {g:Gr} (hg:GV F v g) (i:Int) (h1:g.lvs.length<=1000000) (h2:∀x∈g.lvs,x.ps.length<=1000000):ν 130 #[nL v,U i] F λr B=>r=nS (decide (i∈g.lvs.flatMap Lv.ps))/\F.le B:=by
 obtain ⟨c,n,t,s,p,lv,f,rfl,O⟩:=hg;have el:=O.l.len;refine qee ?_;unfold Pm;refine fresh λb2 F1 Q q1 _=> ?_;have O:=O.le Q;refine bC (xn · i b2 _) g.lvs.length (λk B=>F1.le B/\i ∉ (g.lvs.take k).flatMap Lv.ps) ⟨au _,by simp⟩ ?_;rintro k F2 N hk ⟨L,C⟩ next;unfold xn;have p1:=L _ _ q1;refine ⟨_,ld p1 rfl,λw=> ?_,λa3=> ?_⟩
 ·have w:k<g.lvs.length:=by omega
  have hx:=N5 w;have H:=U9 w;generalize g.lvs[k]=x at hx H;obtain ⟨a,cc,ha,hr,hc⟩:=(O.l.le L).get (by decide) hx;obtain ⟨W,nn,rfl,K,_⟩:=hc;have a4:=K.len;have a5:=h2 x H;have A:∀{B:PH},F2.le B->B.cell (nR a (nT (k:Int)*4))=V W.v:=λl=>by rw [N4];exact aK l (aE hr rfl)
  refine bC (xm N · i b2 (k:Int) _) x.ps.length (λj B=>F2.le B/\i ∉ x.ps.take j) ⟨au _,by simp⟩ ?_;rintro j F3 N2 hj ⟨E,G⟩ D;unfold xm;have p3:=E _ _ p1;refine ⟨_,ld p3 rfl,a,ha,by omega,by omega,W,A E,λa0=>⟨_,ld p3 rfl,a,ha,by omega,by omega,W,A E,t6 (K.le E) (by decide) (by omega) (by omega) λa2 c2 y X J P=> ?_⟩,λa1=> ?_⟩
  ·rw [N4] at X;rw [show c2= #[U y] from P] at J;refine ⟨y,aE J rfl,λR=>⟨?_,aa Q (aa L E)⟩,λR=> ?_⟩
   ·rw [ε (XV.2 ⟨x,H,by rw [<- R];exact vQ X⟩)]
   ·rw [aC (n:=x.ps.length) (by omega) (by omega)];refine D _ (by omega) ⟨E,λM=> ?_⟩;rw [bD X] at M;rcases vd.1 M with h|h
    ·exact G h
    ·exact R (vy.1 h).symm
  ·have e:j=x.ps.length:=by omega
   subst e;rw [wy] at G;unfold Ef;rw [aC w];refine next _ w ⟨aa L E,λM=> ?_⟩;rw [bD hx,XT] at M;rcases vd.1 M with h|h
   ·exact C h
   ·simp at h;exact G h
 ·have e:k=g.lvs.length:=by omega
  subst e;rw [wy] at C;unfold Ee;exact ⟨by rw [η C],aa Q L⟩
structure Ru where
 kind:Nat
 a:Nat
 b:Nat
 c:Nat
 cond:Nat
instance:Mem Ru where
 n:=5
 rep _ x c:=c= #[vB x.kind,vB x.a,vB x.b,vB x.c,vB x.cond]/\x.kind<256/\x.a<256/\x.b<256/\x.c<256/\x.cond<256
 len h:=by obtain ⟨rfl,_⟩:=h;rfl
 le _ h:=h
 st h:=by obtain ⟨rfl,_⟩:=h;simp [ak]
abbrev yA (g:Gr) (x:Ru):vE:=pg (ja x.cond g.qa4.length)
open Classical in
def jY (g:Gr) (x:Fi):Gr:=if co g x then {g with fils:=g.fils++[x]} else g
def nN (g:Gr) (x:Ru):Gr:=
 if ((x.a % g.qa0.length:Nat):Int)∈g.lvs.flatMap Lv.ps then g
 else {g with lvs:=g.lvs++[⟨((x.a % g.qa0.length:Nat):Int)::(if x.b % g.qa0.length≠x.a % g.qa0.length/\((x.b % g.qa0.length:Nat):Int) ∉ g.lvs.flatMap Lv.ps then [((x.b % g.qa0.length:Nat):Int)] else []),((x.c % 4:Nat):Int),yA g x⟩]}
def tokG (g:Gr) (x:Ru):Gr:={g with qa2:=g.qa2.modify (x.a % 9) λt=>{t with cond:=yA g x}}
def ruleG (g:Gr) (x:Ru):Gr:=
 if x.kind % 8<2 then nN g x
 else if x.kind % 8<4 then jY g ⟨((x.kind % 8 - 1:Nat):Int),((x.a % g.qa0.length:Nat):Int),((x.c % 16:Nat):Int),((x.b % g.qa0.length:Nat):Int),0,0,[],yA g x⟩
 else if x.kind % 8<6 then jY g ⟨((x.kind % 8 - 1:Nat):Int),0,0,0,((x.a % g.qa1.length:Nat):Int),0,[((x.b % 9:Nat):Int)],yA g x⟩
 else if x.kind % 8=6 then jY g ⟨5,0,0,0,0,0,[5],yA g x⟩
 else tokG g x
theorem bS.sz {α:Type} [Mem α] {F:PH} {l:List α} {vs:List Γ} (h:bS F l vs):∀d∈vs,d.size=Mem.n α:=by
 induction h with
 |nil=>intro d hd;cases hd
 |cons h _ ih=>
  intro d hd;rcases tD.1 hd with rfl|hd
  ·exact Mem.len h
  ·exact ih d hd
structure RK (F G:PH) (b3 b5:Nat) (g:Gr) (x:Ru) (c n t s p l f m:Sl):Prop where
 lF:F.le G
 q3:G b3=V (Y #[vB x.kind,vB x.a,vB x.b,vB x.c,vB x.cond] 194)
 q5:G b5=V (Y #[m.v,U (yA g x).2] 33)
 gs:GS G g c n t s p l f
 m:RL G m (yA g x).1
theorem RK.le {F G A:PH} {B w:Nat} {g:Gr} {x:Ru} {c n t s p l f m:Sl} (h:RK F G B w g x c n t s p l f m) (r:G.le A):RK F A B w g x c n t s p l f m:=
 ⟨aa h.lF r,r _ _ h.q3,r _ _ h.q5,h.gs.le r,h.m.le r⟩
theorem RK.gv {F G:PH} {w r:Nat} {g:Gr} {x:Ru} {c n t s p l f m:Sl} (h:RK F G w r g x c n t s p l f m):GV G (g.arr c n t s p l f) g:=⟨c,n,t,s,p,l,f,rfl,h.gs⟩
section
variable {F G F1:PH} {b2 b3 b4 b5 b7 b8:Nat} {g g':Gr} {x:Ru} {c n t s p l f m:Sl}
theorem jc {w:Γ} (hF:F.le G) (r:GV G w g') (st:St G F1 [pt b4 (Y zG 39),pt b2 (Y w 39)]):
  ∃v:Γ,v.size=9/\F1.row (ou b2 0 I) v/\aA F1 (ou b4 0 I) 9 v λF2=>∃v:Γ,v.size=9/\F2.row (ou b4 0 I) v/\LR F g' (nL v) F2:=by
 refine ⟨_,r.size,st.whole1,?_⟩;refine st.put0 (w':=w) r.size rfl r.st λA h=> ?_;exact ⟨_,r.size,h.whole0,⟨_,rfl,r.le h.le⟩,aa hF h.le⟩
theorem wz {y:Fi} {h r:Sl} (K:RK F G b3 b5 g x c n t s p l f m) (M:g.fils.length<=1000000) (N:y.cond.1.length<=1000000) (P:y.qa2.length<=1000) (E:RL G h y.qa2) (C:RL G r y.cond.1)
  (st:St G F1 [pt b7 (Y (y.arr h r) 233),pt b4 (Y zG 39),pt b2 (Y (g.arr c n t s p l f) 39)]):
  sN b2 b4 b7 (LR F (jY g y)) F1:=by
 obtain ⟨_,_,T⟩:=qf9;unfold sN;refine ⟨_,rfl,st.whole2,_,rfl,st.whole0,?_⟩;refine st.runv (BB K.gv ⟨h,r,rfl,E,C⟩ N (by omega)) λO F2 w st=> ?_;have K:=K.le w;refine ⟨_,rfl,λA=> ?_,λA=> ?_⟩
 ·have e:jY g y={g with fils:=g.fils++[y]}:=by unfold jY;rw [Χ (show co g y by simpa using A)]
  rw [e];refine ⟨_,st.ld2 rfl,_,rfl,st.whole0,?_⟩;refine St.grow T st K.gs.f (y:=y) ⟨h,r,rfl,E.le w,C.le w⟩ M rfl (λJ L st=>st.whole0) λD J L H B st=> ?_;have K:=K.le H;refine st.set2 (w':=Gr.arr {g with fils:=g.fils++[y]} c n t s p l D) (vx rfl) rfl λQ st=> ?_;unfold nV;exact jc K.lF ⟨c,n,t,s,p,l,D,rfl,K.gs.c,K.gs.n,K.gs.t,K.gs.s,K.gs.p,K.gs.l,B⟩ st.tail
 ·have e:jY g y=g:=by unfold jY;rw [Υ (show ¬co g y by simpa using A)]
  rw [e];unfold nV;exact jc K.lF K.gv st.tail
theorem DI {y:Lv} {h r:Sl} (K:RK F G b3 b5 g x c n t s p l f m) (J:g.lvs.length<=1000000) (H:RL G h y.ps) (C:RL G r y.cond.1)
  (st:St G F1 [pt b8 (Y (y.arr h r) 236),pt b4 (Y zG 39),pt b2 (Y (g.arr c n t s p l f) 39)]):
  xe b2 b4 b8 (LR F {g with lvs:=g.lvs++[y]}) F1:=by
 obtain ⟨_,_,T⟩:=qf8;unfold xe;refine ⟨_,st.ld2 rfl,_,rfl,st.whole0,?_⟩;refine St.grow T st K.gs.l (y:=y) ⟨h,r,rfl,H,C⟩ J rfl (λD E st=>st.whole0) λA D E B w st=> ?_;have K:=K.le B;refine st.set2 (w':=Gr.arr {g with lvs:=g.lvs++[y]} c n t s p A f) (vx rfl) rfl λL st=> ?_;unfold nW;exact jc K.lF ⟨c,n,t,s,p,A,f,rfl,K.gs.c,K.gs.n,K.gs.t,K.gs.s,K.gs.p,w,K.gs.f⟩ st.tail
end
theorem Gh {α:Type} (l:List α) (i:Nat) (f:α->α) {x:α} (h:l[i]? =V x):l.modify i f=l.set i (f x):=by
 apply WJ;intro j;rw [YH,Yj];by_cases e:i=j
 ·subst e;obtain ⟨g,rfl⟩:=N6.1 h;simp [g]
 ·simp [e]
structure RH (g:Gr) (x:Ru):Prop where
 ka:x.kind<256
 a:x.a<256
 b:x.b<256
 c:x.c<256
 pl:g.qa0.length<=1000000
 p0:g.qa0.length≠0
 nl:g.qa1.length<=1000000
 n0:g.qa1.length≠0
 tl:g.qa2.length<=1000000
 t9:9<=g.qa2.length
 ll:g.lvs.length<=1000000
 lp:∀y∈g.lvs,y.ps.length<=1000000
 fl:g.fils.length<=1000000
 dl:(yA g x).1.length<=1000000
section
variable {F G F1:PH} {b2 b3 b4 b5 b7 b8:Nat} {g g':Gr} {x:Ru} {c n t s p l f m:Sl}
abbrev f0 (g:Gr) (x:Ru):Fi:=⟨0,0,0,0,0,0,[],yA g x⟩
theorem wN {a b:Nat} (h:a<256):sq (i64.wrap (a:Int)) (b:Int)=((a % b:Nat):Int):=by rw [aJ (by omega),iR]
theorem DJ (K:RK F G b3 b5 g x c n t s p l f m) (H:RH g x) {q:Bool} (hk:4<=x.kind % 8) (hq:q=mY↔(x.kind % 8=4\/x.kind % 8=5))
  (st:St G F1 [pt b7 (Y ((f0 g x).arr pi m) 233),pt b4 (Y zG 39),pt b2 (Y (g.arr c n t s p l f) 39)]):
  xg b2 b3 b4 b5 b7 (x.kind:Int) q (LR F (ruleG g x)) F1:=by
 have es:=K.gs.s.len;have et:=K.gs.t.len;have e8:sq (x.kind:Int) 8=((x.kind % 8:Nat):Int):=iR x.kind 8;have ka:=H.ka;unfold xg;refine ⟨λL=> ?_,λL=> ?_⟩
 ·have a1:=hq.1 L;have e:ruleG g x=jY g ⟨((x.kind % 8 - 1:Nat):Int),0,0,0,((x.a % g.qa1.length:Nat):Int),0,[((x.b % 9:Nat):Int)],yA g x⟩:=by unfold ruleG;rw [Υ (by omega),Υ (by omega),Χ (by omega)]
  rw [e];refine ⟨_,ld (st.le _ _ K.q3) rfl,?_⟩;dsimp only;rw [e8,show i64.wrap ((x.kind % 8:Nat):Int)=((x.kind % 8:Nat):Int) from aJ (by omega),show i64.wrap ((3:Int)+((x.kind % 8:Nat):Int))=(3:Int)+((x.kind % 8:Nat):Int) from aJ (by omega),show i64.wrap ((3:Int)+((x.kind % 8:Nat):Int) - 4)=((x.kind % 8 - 1:Nat):Int) by rw [aJ (by omega)];omega];refine st.set0 (w':=Fi.arr ⟨((x.kind % 8 - 1:Nat):Int),0,0,0,0,0,[],yA g x⟩ pi m) (vx rfl) rfl λF2 st=> ?_;refine ⟨_,ld (st.le _ _ K.q3) rfl,_,st.ld2 rfl,by have:=H.n0;omega,?_⟩;rw [es,wN H.a];refine st.set0 (w':=Fi.arr ⟨((x.kind % 8 - 1:Nat):Int),0,0,0,((x.a % g.qa1.length:Nat):Int),0,[],yA g x⟩ pi m) (vx rfl) rfl λF3 st=> ?_;refine ⟨_,ld (st.le _ _ K.q3) rfl,?_⟩;dsimp only;rw [show sq (i64.wrap (x.b:Int)) (9:Int)=((x.b % 9:Nat):Int) from wN (b:=9) H.b];refine st.newG λB G2 J r q _ st=> ?_;refine st.set0 (w':=Fi.arr ⟨((x.kind % 8 - 1:Nat):Int),0,0,0,((x.a % g.qa1.length:Nat):Int),0,[((x.b % 9:Nat):Int)],yA g x⟩ (ua (V (ou B 0 I)) 1 1) m) (vx rfl) rfl λF5 st=> ?_;exact wz (y:=⟨((x.kind % 8 - 1:Nat):Int),0,0,0,((x.a % g.qa1.length:Nat):Int),0,[((x.b % 9:Nat):Int)],yA g x⟩) (K.le r) H.fl H.dl (by simp) (kV q) (K.m.le r) st
 ·have a0:¬(x.kind % 8=4\/x.kind % 8=5):=λh=>by rw [hq.2 h] at L;cases L
  rw [e8];refine ⟨λh6=> ?_,λh6=> ?_⟩
  ·have e:ruleG g x=jY g ⟨5,0,0,0,0,0,[5],yA g x⟩:=by unfold ruleG;rw [Υ (by omega),Υ (by omega),Υ (by omega),Χ (by omega)]
   rw [e];refine st.set0 (w':=Fi.arr ⟨5,0,0,0,0,0,[],yA g x⟩ pi m) (vx rfl) rfl λF2 st=> ?_;refine st.newG λD G2 J r q _ st=> ?_;refine st.set0 (w':=Fi.arr ⟨5,0,0,0,0,0,[5],yA g x⟩ (ua (V (ou D 0 I)) 1 1) m) (vx rfl) rfl λF5 st=> ?_;exact wz (y:=⟨5,0,0,0,0,0,[5],yA g x⟩) (K.le r) H.fl H.dl (by simp) (kV q) (K.m.le r) st
  ·have e:ruleG g x=tokG g x:=by unfold ruleG;rw [Υ (by omega),Υ (by omega),Υ (by omega),Υ (by omega)]
   rw [e];obtain ⟨_,_,T⟩:=Wa;have a3:=H.t9;have a2:=H.tl;have h9:x.a % 9<9:=V7 _ (by decide);obtain ⟨vs,E,M⟩:=K.gs.t;have R:=N5 (show x.a % 9<g.qa2.length by omega);generalize g.qa2[x.a % 9]=y at R;obtain ⟨w,P,Q,_⟩:=E.get R;refine st.new λW F2 st=> ?_;have st:=st.imp (A':=own (ua (V (ou W 0 I)) 0 0) 166 7 []) 0 rfl λH _ hH=>jD hH;refine ⟨_,st.ld3 rfl,?_⟩;refine St.app0 T st (M.le st.le) E.st (by show 0+t.len<=_;omega) λA F3 st a4=> ?_;rw [zE] at st;refine ⟨_,ld (st.le _ _ K.q3) rfl,_,rfl,ai (st.le _ _ K.q5),?_⟩;rw [show sq (i64.wrap (x.a:Int)) (9:Int)=((x.a % 9:Nat):Int) from wN (b:=9) H.a];refine st.elN 0 rfl E.sz P (by decide) rfl (by show 5+2<=7;decide) (by simp [ak,nE]) λJ st=> ?_;obtain ⟨pp,nn,rfl,X,a5⟩:=Q;have O:Mem.rep G {y with cond:=yA g x} (wr (y.arr pp nn) 5 (#[m.v,U (yA g x).2]:Γ).toList):=⟨pp,m,rfl,X,K.m⟩;refine st.pinOwn (K:=λJ=>qW J (ou b2 3 I) (nE A) _) λG5 l5 C st=> ?_;have K:=K.le l5;have N:RL G5 A (tokG g x).qa2:=by show RL G5 A (g.qa2.modify (x.a % 9) λt=>{t with cond:=yA g x});rw [Gh _ _ _ R];exact ⟨_,(E.set O).le l5,C⟩
   refine st.set2 (w':=Gr.arr (tokG g x) c n A s p l f) (vx rfl) rfl λF6 st=> ?_;exact jc (g':=tokG g x) K.lF ⟨c,n,A,s,p,l,f,rfl,K.gs.c,K.gs.n,N,K.gs.s,K.gs.p,K.gs.l,K.gs.f⟩ st.tail
theorem DK (K:RK F G b3 b5 g x c n t s p l f m) (H:RH g x) {q:Bool} (L:2<=x.kind % 8) (A:q=mY↔(x.kind % 8=2\/x.kind % 8=3))
  (st:St G F1 [pt b7 (Y ((f0 g x).arr pi m) 233),pt b4 (Y zG 39),pt b2 (Y (g.arr c n t s p l f) 39)]):
  xh b2 b3 b4 b5 (x.a:Int) p b7 (x.kind:Int) q (LR F (ruleG g x)) F1:=by
 have B:=K.gs.p.len;have D:sq (x.kind:Int) 8=((x.kind % 8:Nat):Int):=iR x.kind 8;have O:=H.ka;unfold xh;refine ⟨λr=> ?_,λr=> ?_⟩
 ·have w:=A.1 r;have e:ruleG g x=jY g ⟨((x.kind % 8 - 1:Nat):Int),((x.a % g.qa0.length:Nat):Int),((x.c % 16:Nat):Int),((x.b % g.qa0.length:Nat):Int),0,0,[],yA g x⟩:=by unfold ruleG;rw [Υ (by omega),Χ (by omega)]
  rw [e];refine ⟨_,ld (st.le _ _ K.q3) rfl,?_⟩;dsimp only;rw [D,show i64.wrap ((x.kind % 8:Nat):Int)=((x.kind % 8:Nat):Int) from aJ (by omega),show i64.wrap ((1:Int)+((x.kind % 8:Nat):Int))=(1:Int)+((x.kind % 8:Nat):Int) from aJ (by omega),show i64.wrap ((1:Int)+((x.kind % 8:Nat):Int) - 2)=((x.kind % 8 - 1:Nat):Int) by rw [aJ (by omega)];omega];refine st.set0 (w':=Fi.arr ⟨((x.kind % 8 - 1:Nat):Int),0,0,0,0,0,[],yA g x⟩ pi m) (vx rfl) rfl λF2 st=> ?_;rw [B,wN H.a];refine st.set0 (w':=Fi.arr ⟨((x.kind % 8 - 1:Nat):Int),((x.a % g.qa0.length:Nat):Int),0,0,0,0,[],yA g x⟩ pi m) (vx rfl) rfl λN st=> ?_;refine ⟨_,ld (st.le _ _ K.q3) rfl,?_⟩;dsimp only;rw [show sq (i64.wrap (x.c:Int)) (16:Int)=((x.c % 16:Nat):Int) from wN (b:=16) H.c];refine st.set0 (w':=Fi.arr ⟨((x.kind % 8 - 1:Nat):Int),((x.a % g.qa0.length:Nat):Int),((x.c % 16:Nat):Int),0,0,0,[],yA g x⟩ pi m) (vx rfl) rfl λM st=> ?_;refine ⟨_,ld (st.le _ _ K.q3) rfl,_,st.ld2 rfl,by have:=H.p0;omega,?_⟩;rw [B,wN H.b];refine st.set0 (w':=Fi.arr ⟨((x.kind % 8 - 1:Nat):Int),((x.a % g.qa0.length:Nat):Int),((x.c % 16:Nat):Int),((x.b % g.qa0.length:Nat):Int),0,0,[],yA g x⟩ pi m) (vx rfl) rfl λJ st=> ?_;exact wz (y:=⟨((x.kind % 8 - 1:Nat):Int),((x.a % g.qa0.length:Nat):Int),((x.c % 16:Nat):Int),((x.b % g.qa0.length:Nat):Int),0,0,[],yA g x⟩) K H.fl H.dl (by simp) (.nil _) K.m st
 ·have C:¬(x.kind % 8=2\/x.kind % 8=3):=λh=>by rw [A.2 h] at r;cases r
  rw [D];refine ⟨λE=>DJ K H (by omega) ?_ st,λE=>DJ K H (by omega) ?_ st⟩
  ·rw [δ];omega
  ·rw [δ];omega
theorem DL (K:RK F G b3 b5 g x c n t s p l f m) (H:RH g x) {q:Bool} (hq:q=mY↔(x.kind % 8=0\/x.kind % 8=1))
  (st:St G F1 [pt b7 (Y ((f0 g x).arr pi m) 233),pt b4 (Y zG 39),pt b2 (Y (g.arr c n t s p l f) 39)]):
  xj b2 b3 b4 b5 (x.a:Int) p b7 (x.kind:Int) q (LR F (ruleG g x)) F1:=by
 have W:=K.gs.p.len;have e8:sq (x.kind:Int) 8=((x.kind % 8:Nat):Int):=iR x.kind 8;unfold xj;refine ⟨λL=> ?_,λL=> ?_⟩
 ·have a1:=hq.1 L;have e:ruleG g x=nN g x:=by unfold ruleG;rw [Χ (by omega)]
  rw [e,W,wN H.a];refine ⟨_,rfl,st.whole2,?_⟩;refine st.runv (oF K.gv _ H.ll H.lp) λG2 F2 l2 st=> ?_;have K:=K.le l2;refine ⟨_,rfl,λX=> ?_,λX=> ?_⟩
  ·have C:((x.a % g.qa0.length:Nat):Int) ∉ g.lvs.flatMap Lv.ps:=by simpa using X
   refine st.new λr F3 st=> ?_;have st:=st.imp (A':=own (ua (V (ou r 0 I)) 1 1) 3 1 [U ((x.a % g.qa0.length:Nat):Int)]) 0 rfl λH _ D=> .inr ⟨r,_,rfl,D,rfl,qX _,rfl,rfl⟩;refine ⟨_,ld (st.le _ _ K.q3) rfl,_,rfl,ai (st.le _ _ K.q5),rfl,?_⟩;rw [show sq (x.c:Int) (4:Int)=((x.c % 4:Nat):Int) from iR x.c 4,show i64.wrap ((x.c % 4:Nat):Int)=((x.c % 4:Nat):Int) from aJ (by omega)];refine st.new λb8 F4 st=> ?_;refine st.put0 (w':=Lv.arr ⟨[((x.a % g.qa0.length:Nat):Int)],((x.c % 4:Nat):Int),yA g x⟩ (ua (V (ou r 0 I)) 1 1) m) rfl rfl (by simp [ak,nE]) λF5 st=> ?_;refine ⟨_,ld (st.le _ _ K.q3) rfl,_,st.ld4 rfl,by have:=H.p0;omega,?_⟩;have j6:∀{G R:PH} {q6:Bool},RK F G b3 b5 g x c n t s p l f m->(q6=mY↔(x.b % g.qa0.length≠x.a % g.qa0.length/\((x.b % g.qa0.length:Nat):Int) ∉ g.lvs.flatMap Lv.ps))->
     St G R [pt b8 (Y (Lv.arr ⟨[((x.a % g.qa0.length:Nat):Int)],((x.c % 4:Nat):Int),yA g x⟩ (ua (V (ou r 0 I)) 1 1) m) 236),own (ua (V (ou r 0 I)) 1 1) 3 1 [U ((x.a % g.qa0.length:Nat):Int)],pt b7 (Y ((f0 g x).arr pi m) 233),pt b4 (Y zG 39),pt b2 (Y (g.arr c n t s p l f) 39)]->
     xf b2 b4 b8 (x.b:Int) p q6 (LR F (nN g x)) R:=λ{G R q6} K E st=>by
    unfold xf;refine ⟨λJ=> ?_,λJ=> ?_⟩
    ·have B:nN g x={g with lvs:=g.lvs++[⟨[((x.a % g.qa0.length:Nat):Int),((x.b % g.qa0.length:Nat):Int)],((x.c % 4:Nat):Int),yA g x⟩]}:=by unfold nN;rw [Υ C,Χ (E.1 J)]
     rw [B];refine ⟨_,st.ld0 rfl,?_⟩;rw [W,wN H.b];refine st.push1 sG (c:= #[U ((x.b % g.qa0.length:Nat):Int)]) rfl (by simp [ak]) (by show 1<=400000000000;decide) λs' G7 F7 l7 st a2=> ?_;refine st.set0 (w':=Lv.arr ⟨[((x.a % g.qa0.length:Nat):Int),((x.b % g.qa0.length:Nat):Int)],((x.c % 4:Nat):Int),yA g x⟩ s' m) (vx rfl) rfl λF8 st=> ?_;obtain ⟨Q,O,⟨H9,P,D⟩,st⟩:=st.front1.pin;have w:RL Q s' [((x.a % g.qa0.length:Nat):Int),((x.b % g.qa0.length:Nat):Int)]:=RL.ints.2 ((bP.rd P).le D);have K:=K.le (aa l7 O);have st:=st.front1.tail;exact DI (y:=⟨[((x.a % g.qa0.length:Nat):Int),((x.b % g.qa0.length:Nat):Int)],((x.c % 4:Nat):Int),yA g x⟩) K H.ll w K.m st
    ·have N:¬(x.b % g.qa0.length≠x.a % g.qa0.length/\((x.b % g.qa0.length:Nat):Int) ∉ g.lvs.flatMap Lv.ps):=λh=>by rw [E.2 h] at J;cases J
     have B:nN g x={g with lvs:=g.lvs++[⟨[((x.a % g.qa0.length:Nat):Int)],((x.c % 4:Nat):Int),yA g x⟩]}:=by unfold nN;rw [Υ C,Υ N]
     rw [B];obtain ⟨Q,O,⟨H9,P,D⟩,st⟩:=st.front1.pin;have w:RL Q (ua (V (ou r 0 I)) 1 1) [((x.a % g.qa0.length:Nat):Int)]:=RL.ints.2 ((bP.rd P).le D);have K:=K.le O;have st:=st.front1.tail;exact DI (y:=⟨[((x.a % g.qa0.length:Nat):Int)],((x.c % 4:Nat):Int),yA g x⟩) K H.ll w K.m st
   rw [W,wN H.b];refine ⟨λM=>⟨_,rfl,st.whole4,?_⟩,λA=>j6 K ?_ st⟩
   ·refine st.runv (oF K.gv _ H.ll H.lp) λG6 F6 l6 st=> ?_;refine ⟨_,rfl,j6 (K.le l6) ?_ st⟩;simp only [Bool.not_eq_true',decide_eq_false_iff_not];exact ⟨λh=>⟨λe=>M (by rw [e]),h⟩,λh=>h.2⟩
   ·have A:x.b % g.qa0.length=x.a % g.qa0.length:=by omega
    exact ⟨λh=>(by cases h),λh=>absurd A h.1⟩
  ·have B:nN g x=g:=by unfold nN;rw [Χ (by simpa using X)]
   rw [B];unfold nW;exact jc K.lF K.gv st.tail
 ·have a0:¬(x.kind % 8=0\/x.kind % 8=1):=λh=>by rw [hq.2 h] at L;cases L
  rw [e8];refine ⟨λh4=>DK K H (by omega) ?_ st,λh4=>DK K H (by omega) ?_ st⟩
  ·rw [δ];omega
  ·rw [δ];omega
end
theorem BC {F:PH} {w v:Γ} {g:Gr} {x:Ru} (hg:GV F w g) (X:Mem.rep F x v) (H:RH g x) (hn:g.qa4.length<=6):
  ν 95 #[nL w,nL v] F (LR F (ruleG g x)):=by
 obtain ⟨c,n,t,s,p,l,f,rfl,B⟩:=hg;obtain ⟨rfl,G,a0,a1,W,A⟩:=X;have ec:=B.c.len;have ep:=B.p.len;refine aaf ?_;unfold Wm;refine (St.start F).new λb2 F1 st=> ?_;refine st.newG λD G1 F2 E q3 _ st=> ?_;refine st.new λb4 F3 st=> ?_;refine ⟨_,ld (st.le _ _ q3) rfl,_,st.ld1 rfl,?_⟩;dsimp only;rw [ec];refine st.run (yS x.cond g.qa4.length A hn _) λ_ G2 F4 O M st=> ?_;obtain ⟨⟨_,rfl,R⟩,-⟩:=O;obtain ⟨m,rfl,Q⟩:=R.out;refine ⟨_,rfl,?_⟩;refine st.var (w:= #[m.v,U (yA g x).2]) (by simp [ak,nE]) (λJ N F5 C q5 st=> ?_) rfl rfl;have r:=aa M C;have h:=aa E r;have K:RK F N D J g x c n t s p l f m:=⟨h,r _ _ q3,q5,B.le h,Q.le C⟩;refine ⟨_,ld (st.le _ _ K.q3) rfl,_,st.ld1 rfl,by have:=H.p0;omega,_,rfl,ai (st.le _ _ K.q5),rfl,?_⟩;refine st.new λb7 F6 st=> ?_;refine st.put0 (w':=(f0 g x).arr pi m) rfl rfl (by simp [ak,nE]) λF7 st=> ?_;have P:sq (x.kind:Int) 8=((x.kind % 8:Nat):Int):=iR x.kind 8;refine ⟨_,ld (st.le _ _ K.q3) rfl,?_⟩;dsimp only;rw [P];refine ⟨λL=>DL K H ?_ st,λL=>DL K H ?_ st⟩
 ·rw [δ];omega
 ·rw [δ];omega
theorem wA (l:Φ) {n:Nat} (g:n<=6):∀(m v k:Nat),v+m=n->Sx n (iW l m v k)
 |0,v,k,_=>Sx.qa6 n _
 |m+1,v,k,h=>by unfold iW;have r:Sx n (tv v):=Sx.tv (by omega) g;exact (r.ap2 (wA l g m (v+1) _ (by omega))).ap2 ((wA l g m (v+1) k (by omega)).ap2 (r.ap2 (Sx.qa6 n mY)))
theorem lY {b n:Nat} (g:n<=6):Sx n (ja b n):=by
 unfold ja;split
 ·exact Sx.qa6 n mY
 ·rename_i h;have r:b / 6 % n<n:=V7 _ (by omega);split
  ·exact Sx.tv r g
  ·split
   ·exact (Sx.tv r g).ap2 (Sx.qa6 n mY)
   ·exact wA _ g n 0 0 (by omega)
theorem Sx.brl {n:Nat} {t:Tr} (h:Sx n t) (g:n<=6):(pg t).1.length<=63:=by have:(pg t).1.length=(aU t).length:=aO _;rw [this];exact h.len g
structure Rw where
 qa5:Nat
 n:Nat
 fam:Δ
 lines:List Ln
 rules:List Ru
structure Gi (F:PH) (v:Γ) (x:Rw):Prop where
 ex:∃sf sl sr:Sl,v= #[vB x.qa5,vB x.n,sf.v,sl.v,sr.v]/\RdS F sf 1 (x.fam.map vB)/\RL F sl x.lines/\RL F sr x.rules
 b:x.qa5<256
 n:x.n<256
theorem Gi.le {F G:PH} {v:Γ} {x:Rw} (h:Gi F v x) (g:F.le G):Gi G v x:=by obtain ⟨⟨A,B,C,D,r,E,H⟩,w,J⟩:=h;exact ⟨⟨A,B,C,D,r.le g,E.le g,H.le g⟩,w,J⟩
def bE (x:Rw):Bool:=decide (x.qa5 % 8<6)
def fo (x:Rw):List ο:=([⟨#[83]⟩,⟨#[80]⟩,⟨#[81]⟩]:List ο).take (1+x.n / 4 % 3)
def jd (x:Rw):List ο:=([⟨#[65]⟩,⟨#[66]⟩,⟨#[67]⟩]:List ο).take (x.n % 4)
def cV (x:Rw):Gr:=if bE x=mY then cn (x.qa5 % 8) else {dZ (fo x) with qa4:=jd x,qa0:=[bz ⟨#[102,105,114,115,116]⟩ 0 [⟨mY,0⟩]]}
def yV (x:Rw) (n:Nat):Tr:=iW (x.fam.map λk:Nat=>(k:Int)) n 0 0
def famG (x:Rw) (g:Gr):Gr:=if x.fam≠[]/\(pg (yV x g.qa4.length)).2≠0 then {g with fam:=pg (yV x g.qa4.length)} else g
def cO (x:Rw):Nat:=if bE x=mY then 6 else 10
def dv (x:Rw) (l:List Ln) (g:Gr):Gr:=l.foldl (λg y=>lineG g y (bE x)) g
def dM (l:List Ru) (g:Gr):Gr:=l.foldl ruleG g
def aS (x:Rw):Gr:=dM (x.rules.take 6) (dv x (x.lines.take (cO x)) (famG x (cV x)))
structure Bd (g:Gr) (np nl:Nat):Prop where
 c:g.qa4.length<=3
 n0:g.qa1.length≠0
 n:g.qa1.length<=3
 p0:g.qa0.length≠0
 p:g.qa0.length<=np
 t:g.qa2.length=11
 l:g.lvs.length<=nl
 lp:∀y∈g.lvs,y.ps.length<=2
 f:g.fils.length<=nl
theorem IT {k:Nat} (r:k<6):Bd (cn k) 8 4:=by
  have h:k=0\/k=1\/k=2\/k=3\/k=4\/k=5:=by omega
  rcases h with rfl|rfl|rfl|rfl|rfl|rfl
  all_goals
    refine ⟨by decide,by decide,by decide,by decide,by decide,rfl,by decide,λy g=> ?_,by decide⟩;first
      |(have:=g;cases this;done)
      | (rcases tD.1 g with rfl|g
         · decide
         rcases tD.1 g with rfl|g
         · decide
         rcases tD.1 g with rfl|g
         · decide
         cases g)
theorem rO (x:Rw):Bd (cV x) 8 4:=by
 unfold cV;split
 ·rename_i h;exact IT (ζ h)
 ·have w:(fo x).length=1+x.n / 4 % 3:=by unfold fo;rw [zZ];simp;omega
  have g:(jd x).length<=3:=by unfold jd;rw [zZ];simp;omega
  exact ⟨g,by show (fo x).length≠0;omega,by show (fo x).length<=3;omega,by show (1:Nat)≠0;decide,by show 1<=8;decide,rfl,by show 0<=4;decide,λy r=>(by cases r),by show 0<=4;decide⟩
theorem IU {x:Rw} {g:Gr} {a b:Nat} (h:Bd g a b):Bd (famG x g) a b:=by
 unfold famG;split
 ·exact ⟨h.c,h.n0,h.n,h.p0,h.p,h.t,h.l,h.lp,h.f⟩
 ·exact h
theorem DM {g:Gr} {a b:Nat} (h:Bd g a b) (y:Ln) (r:Bool):Bd (lineG g y r) (a+1) b:=by
 have w:=h.p;unfold lineG;split
 ·exact ⟨h.c,h.n0,h.n,h.p0,by omega,h.t,h.l,h.lp,h.f⟩
 ·exact ⟨h.c,h.n0,h.n,by show (g.qa0++_).length≠0;rw [tT];have:=h.p0;omega,by show (g.qa0++[_]).length<=_;rw [tT,Uc];omega,h.t,h.l,h.lp,h.f⟩
theorem BE {g:Gr} {a b:Nat} (h:Bd g a b) (y:Fi):Bd (jY g y) a (b+1):=by
 have r:=h.f;have w:=h.l;unfold jY;split
 ·exact ⟨h.c,h.n0,h.n,h.p0,h.p,h.t,by show g.lvs.length<=_;omega,h.lp,by show (g.fils++[_]).length<=_;rw [tT,Uc];omega⟩
 ·exact ⟨h.c,h.n0,h.n,h.p0,h.p,h.t,by omega,h.lp,by omega⟩
theorem DN {g:Gr} {a b:Nat} (h:Bd g a b) (y:Ru):Bd (ruleG g y) a (b+1):=by
 have w:=h.f;have A:=h.l;unfold ruleG;split
 ·unfold nN;split
  ·exact ⟨h.c,h.n0,h.n,h.p0,h.p,h.t,by omega,h.lp,by omega⟩
  ·refine ⟨h.c,h.n0,h.n,h.p0,h.p,h.t,by show (g.lvs++[_]).length<=_;rw [tT,Uc];omega,λz r=> ?_,by show g.fils.length<=_;omega⟩;rcases vd.1 r with r|r
   ·exact h.lp z r
   ·rw [vy.1 r];simp only [wc];split<;>simp
 ·split
  ·exact BE h _
  ·split
   ·exact BE h _
   ·split
    ·exact BE h _
    ·unfold tokG;exact ⟨h.c,h.n0,h.n,h.p0,h.p,by show (g.qa2.modify _ _).length=11;rw [List.length_modify];exact h.t,by show g.lvs.length<=_;omega,h.lp,by show g.fils.length<=_;omega⟩
theorem rP {x:Rw}:∀(l:List Ln) {g:Gr} {a b:Nat},Bd g a b->Bd (dv x l g) (a+l.length) b
 |[],g,a,b,h=>h
 |y::l,g,a,b,h=>by have:=rP (x:=x) l (DM h y (bE x));rw [wc,show a+(l.length+1)=a+1+l.length by omega];exact this
theorem rQ:∀(l:List Ru) {g:Gr} {a b:Nat},Bd g a b->Bd (dM l g) a (b+l.length)
 |[],g,a,b,h=>h
 |y::l,g,a,b,h=>by have:=rQ l (DN h y);rw [wc,show b+(l.length+1)=b+1+l.length by omega];exact this
theorem Bd.rh {g:Gr} {a b:Nat} (h:Bd g a b) (O:a<=1000) (M:b<=1000) {F:PH} {y:Ru} {v:Γ} (C:Mem.rep F y v):RH g y:=by obtain ⟨-,E,w,r,G,L⟩:=C;have N:=h.c;have H:=h.n;have K:=h.p;have J:=h.t;have B:=h.l;have A:=h.f;exact ⟨E,w,r,G,by omega,h.p0,by omega,h.n0,by omega,by omega,by omega,λz D=>by have:=h.lp z D;omega,by omega,by have:=(lY (b:=y.cond) (n:=g.qa4.length) (by omega)).brl (by omega);show (pg (ja y.cond g.qa4.length)).1.length<=_;omega⟩
section
variable {F G F1:PH} {b1 b2 b4:Nat} {x:Rw} {g:Gr} {w:Γ} {sf sl sr:Sl}
structure WK (F G:PH) (b1:Nat) (x:Rw) (sf sl sr:Sl):Prop where
 lF:F.le G
 q1:G b1=V (Y #[vB x.qa5,vB x.n,sf.v,sl.v,sr.v] 26)
 rf:RdS G sf 1 (x.fam.map vB)
 rl:RL G sl x.lines
 rr:RL G sr x.rules
theorem WK.le {A:PH} (h:WK F G b1 x sf sl sr) (r:G.le A):WK F A b1 x sf sl sr:=⟨aa h.lF r,r _ _ h.q1,h.rf.le r,h.rl.le r,h.rr.le r⟩
theorem MH (K:WK F G b1 x sf sl sr) (r:GV G w g) (st:St G F1 [pt b4 (Y w 39),pt b2 (Y zG 39)]):sH b2 b4 (LR F g) F1:=by unfold sH;refine ⟨_,r.size,st.whole0,?_⟩;refine st.put1 (w':=w) r.size rfl r.st λA h=> ?_;exact ⟨_,r.size,h.whole1,⟨_,rfl,r.le h.le⟩,aa K.lF h.le⟩
theorem qh6 (l:List Ln) (y:Ln):dv x (l++[y]) g=lineG (dv x l g) y (bE x):=by simp [dv]
theorem qh7 (l:List Ru) (y:Ru):dM (l++[y]) g=ruleG (dM l g) y:=by simp [dM]
theorem MI {a:Nat} (K:WK F G b1 x sf sl sr) (B:GV G w g) (hb:Bd g a 4) (ha:a<=100) (st:St G F1 [pt b4 (Y w 39),pt b2 (Y zG 39)]):
  sI b1 b2 b4 (LR F (dM (x.rules.take 6) g)) F1:=by
 have er:=K.rr.len;unfold sI;refine bC (B0 · b1 b2 b4 _) (min 6 x.rules.length) (λk L=>∃D w,WK F D b1 x sf sl sr/\GV D w (dM (x.rules.take k) g)/\St D L [pt b4 (Y w 39),pt b2 (Y zG 39)]) ⟨G,w,K,B,st⟩ ?_;rintro k L N hk ⟨D,w,K,B,st⟩ next;unfold B0;have h:k=min 6 x.rules.length->sH b2 b4 (LR F (dM (x.rules.take 6) g)) L:=λe=>by
  have Q:x.rules.take k=x.rules.take 6:=by
   rw [e];by_cases h6:6<=x.rules.length
   ·rw [X2 h6]
   ·rw [Nat.min_eq_right (by omega),wy,zc (by omega)]
  rw [<- Q];exact MH K B st
 refine ⟨_,ld (st.le _ _ K.q1) rfl,λh1=>⟨λP=> ?_,λP=>h (by omega)⟩,λh1=>h (by omega)⟩;have H:k<x.rules.length:=by omega
 have J:=N5 H;generalize x.rules[k]=y at J;obtain ⟨ad,X,E,C,M⟩:=K.rr.get (by decide) J;have r:=rQ (x.rules.take k) hb;rw [zZ] at r;refine ⟨_,B.size,st.whole0,_,ld (st.le _ _ K.q1) rfl,_,E,by omega,by omega,X,Mem.len M,by rw [N4];exact aN st.le C,?_⟩;refine st.run (BC B M (r.rh (by omega) (by omega) M) (by have:=r.c;omega)) λ_ G2 F2 W R st=> ?_;obtain ⟨O,rfl,A⟩:=W;have K:=K.le R;refine ⟨_,rfl,ld (st.le _ _ K.q1) rfl,?_⟩;refine st.put0 (w':=O) A.size B.size A.st λF3 st=> ?_;rw [aC (n:=min 6 x.rules.length) (by omega) (by omega)];refine next _ (by omega) ⟨G2,O,K,?_,st⟩;rw [bD J,qh7];exact A
theorem DO (K:WK F G b1 x sf sl sr) (B:GV G w g) (hb:Bd g 8 4) (st:St G F1 [pt b4 (Y w 39),pt b2 (Y zG 39)]):
  xa b1 b2 (x.qa5:Int) b4 ((cO x:Nat):Int) (LR F (dM (x.rules.take 6) (dv x (x.lines.take (cO x)) g))) F1:=by
 have el:=K.rl.len;have hm:cO x<=10:=by unfold cO;split<;>decide
 unfold xa;refine bC (B1 · b1 b2 (x.qa5:Int) b4 ((cO x:Nat):Int) _) (min (cO x) x.lines.length) (λk L=>∃D w,WK F D b1 x sf sl sr/\GV D w (dv x (x.lines.take k) g)/\St D L [pt b4 (Y w 39),pt b2 (Y zG 39)]) ⟨G,w,K,B,st⟩ ?_;rintro k L N hk ⟨D,w,K,B,st⟩ next;unfold B1;have h:=rP (x:=x) (x.lines.take k) hb;rw [zZ] at h;have r:k=min (cO x) x.lines.length->sI b1 b2 b4 (LR F (dM (x.rules.take 6) (dv x (x.lines.take (cO x)) g))) L:=λe=>by
  have Q:x.lines.take k=x.lines.take (cO x):=by
   rw [e];by_cases h6:cO x<=x.lines.length
   ·rw [X2 h6]
   ·rw [Nat.min_eq_right (by omega),wy,zc (by omega)]
  rw [<- Q];exact MI K B h (by omega) st
 refine ⟨_,ld (st.le _ _ K.q1) rfl,λh1=>⟨λP=> ?_,λP=>r (by omega)⟩,λh1=>r (by omega)⟩;have H:k<x.lines.length:=by omega
 have J:=N5 H;generalize x.lines[k]=y at J;obtain ⟨ad,X,E,C,O⟩:=K.rl.get (by decide) J;refine ⟨_,B.size,st.whole0,_,ld (st.le _ _ K.q1) rfl,_,E,by omega,by omega,X,Mem.len O,by rw [N4];exact aN st.le C,?_⟩;have ek:decide (sq (x.qa5:Int) (8:Int)<6)=bE x:=by unfold bE;rw [show sq (x.qa5:Int) (8:Int)=((x.qa5 % 8:Nat):Int) from iR x.qa5 8];exact decide_eq_decide.2 (by omega)
 rw [ek];refine st.run (Gf (cn:=bE x) B O (by have:=h.c;omega) (by have:=h.p;omega) h.n0 (by have:=h.n;omega)) λ_ G2 F2 W R st=> ?_;obtain ⟨M,rfl,A⟩:=W;have K:=K.le R;refine ⟨_,rfl,ld (st.le _ _ K.q1) rfl,?_⟩;refine st.put0 (w':=M) A.size B.size A.st λF3 st=> ?_;rw [aC (n:=min (cO x) x.lines.length) (by omega) (by omega)];refine next _ (by omega) ⟨G2,M,K,?_,st⟩;rw [bD J,qh6];exact A
theorem DP (K:WK F G b1 x sf sl sr) (Q:GV G w g) (L:Bd g 8 4) (st:St G F1 [pt b4 (Y w 39),pt b2 (Y zG 39)]):
  xd b1 b2 (x.qa5:Int) b4 ((cO x:Nat):Int) (LR F (dM (x.rules.take 6) (dv x (x.lines.take (cO x)) (famG x g)))) F1:=by
 have H:=Q;obtain ⟨c,n,t,s,p,l,f,rfl,B⟩:=Q;have ec:=B.c.len;have J:=K.rf.len;rw [ub,xB] at J;have hn:g.qa4.length<=6:=by have:=L.c;omega
 unfold xd;refine ⟨_,ld (st.le _ _ K.q1) rfl,_,st.ld0 rfl,?_⟩;dsimp only;rw [ec];have E:RdS G sf 1 ((x.fam.map λk:Nat=>(k:Int)).map (ru .u8)):=by rw [X3];exact K.rf
 refine st.run (P:=λr G=>B3 (pg (yV x g.qa4.length)) r G) ((oP hn E).mono λr F' ⟨u,t,N,⟨C,h3⟩,W,R⟩=>⟨⟨u,N,by subst h3;exact W⟩,R⟩) λ_ G2 F2 hr O st=> ?_;obtain ⟨_,rfl,hw⟩:=hr;obtain ⟨m,rfl,hm⟩:=hw.out;have K:=K.le O;refine ⟨_,rfl,?_⟩;refine st.var (w:= #[m.v,U (pg (yV x g.qa4.length)).2]) (by simp [ak,nE]) (λX G3 F3 M q6 st=> ?_) rfl rfl;have K:=K.le M;have A:=aa O M;have no:famG x g=g->sJ b1 b2 (x.qa5:Int) b4 ((cO x:Nat):Int) X mz (LR F (dM (x.rules.take 6) (dv x (x.lines.take (cO x)) (famG x g)))) F3:=λe=>by rw [e];unfold sJ;exact ⟨λh=>(by cases h),λ_=>DO K (H.le A) L st⟩
 refine ⟨_,ld (st.le _ _ K.q1) rfl,λN=>⟨_,ld (st.le _ _ q6) rfl,?_⟩,λN=>no ?_⟩
 ·by_cases C:(pg (yV x g.qa4.length)).2≠0
  ·dsimp only;rw [decide_eq_true C];have e:famG x g={g with fam:=pg (yV x g.qa4.length)}:=by unfold famG;rw [if_pos ⟨λe=>by rw [e] at J;simp at J;omega,C⟩]
   have D:=IU (x:=x) L;rw [e] at D ⊢;unfold sJ;refine ⟨λ_=>⟨_,rfl,ai (st.le _ _ q6),?_⟩,λh=>(by cases h)⟩;refine st.putR0 (o:=1) (w':=Gr.arr {g with fam:=pg (yV x g.qa4.length)} c m t s p l f) rfl (by simp [ak,nE]) (by show 1+2<=9;decide) rfl λF4 st=> ?_;exact DO K ⟨c,m,t,s,p,l,f,rfl,B.c.le A,hm.le M,B.t.le A,B.s.le A,B.p.le A,B.l.le A,B.f.le A⟩ D st
  ·dsimp only;rw [decide_eq_false C];exact no (by unfold famG;rw [if_neg (λh=>C h.2)])
 ·unfold famG;rw [Υ];rintro ⟨h,_⟩;exact h (V5 (by omega))
theorem qh8 {v:Γ} (hx:Gi F v x):ν 64 #[nL v] F (LR F (aS x)):=by
 obtain ⟨⟨sf,sl,sr,rfl,h1,h2,h3⟩,a2,hn⟩:=hx;refine aab ?_;unfold Wi;refine (St.start F).newG λb1 G1 F1 X q1 _ st=> ?_;have K:WK F G1 b1 x sf sl sr:=⟨X,q1,h1.le X,h2.le X,h3.le X⟩;clear q1;refine st.new λb2 F2 st=> ?_;have e8:sq (x.qa5:Int) (8:Int)=((x.qa5 % 8:Nat):Int):=iR x.qa5 8;refine ⟨_,ld (st.le _ _ K.q1) rfl,_,ld (st.le _ _ K.q1) rfl,?_⟩;rw [e8];refine st.run (Bz (x.qa5 % 8) _) λ_ G2 F3 N l2 st=> ?_;obtain ⟨w,rfl,O⟩:=N;have K:=K.le l2;refine ⟨_,rfl,?_⟩;refine st.new λb4 F4 st=> ?_;refine st.put0 (w':=w) O.size rfl O.st λF5 st=> ?_;have B:=rO x;unfold aS;refine ⟨λhk=> ?_,λhk=> ?_⟩
 ·have h:bE x=mz:=by unfold bE;exact η (by omega)
  have e:cV x={dZ (fo x) with qa4:=jd x,qa0:=[bz ⟨#[102,105,114,115,116]⟩ 0 [⟨mY,0⟩]]}:=by unfold cV;rw [h,Υ (by decide)]
  rw [e] at B ⊢;have hm:cO x=10:=by unfold cO;rw [h,Υ (by decide)]
  refine st.newG λC G3 F6 l3 a3 _ st=> ?_;have K:=K.le l3;have ei:i64.wrap ((1:Int)+(sq (i64.wrap (u8.wrap (Int.tdiv (x.n:Int) (4:Int)))) (3:Int)))=((1+x.n / 4 % 3:Nat):Int):=by rw [Y9 (by omega),show (x.n:Int) / 4=((x.n / 4:Nat):Int) by omega,DH (by omega),show sq (i64.wrap ((x.n / 4:Nat):Int)) (3:Int)=((x.n / 4 % 3:Nat):Int) from wN (b:=3) (by omega),aJ (by omega)];omega
  have ej:i64.wrap (sq (x.n:Int) (4:Int))=((x.n % 4:Nat):Int):=by rw [show sq (x.n:Int) (4:Int)=((x.n % 4:Nat):Int) from iR x.n 4,aJ (by omega)]
  refine ⟨_,ld (st.le _ _ K.q1) rfl,?_⟩;dsimp only;rw [ei,N4];refine ⟨by omega,by omega,by show _<=3;omega,?_⟩;have M:RdS G3 (ua (V (ou C 0 I)) 3 3) 1 (([⟨#[83]⟩,⟨#[80]⟩,⟨#[81]⟩]:List ο).map pe):=RdS.new a3 rfl rfl (qX _);have W:RL G3 (Sl.cut (ua (V (ou C 0 I)) 3 3) 1 0 (1+x.n / 4 % 3) 3) (fo x):=by refine RL.strs.2 ?_;have:=M.cut (l:=0) (r:=1+x.n / 4 % 3) (m:=3) (by omega) (by show _<=3;omega) (by omega);rw [V9,Vf,xB,VP,<- List.map_take] at this;exact this
  refine st.run (uv W) λ_ G4 F7 N l4 st=> ?_;obtain ⟨c,n,t,rfl,k1,k2,k3,k4⟩:=N;have K:=K.le l4;refine ⟨_,rfl,?_⟩;refine st.put0 (w':=(dZ (fo x)).arr c n t (Sl.cut (ua (V (ou C 0 I)) 3 3) 1 0 (1+x.n / 4 % 3) 3) pi pi pi) rfl O.size (by simp [ak,nE]) λF8 st=> ?_;refine st.newG λD G5 F9 l5 a6 _ st=> ?_;have K:=K.le l5;refine ⟨_,ld (st.le _ _ K.q1) rfl,?_⟩;dsimp only;rw [ej,N4];refine ⟨by omega,by omega,by show _<=3;omega,?_⟩;have Q:RdS G5 (ua (V (ou D 0 I)) 3 3) 1 (([⟨#[65]⟩,⟨#[66]⟩,⟨#[67]⟩]:List ο).map pe):=RdS.new a6 rfl rfl (qX _);have R:RL G5 (Sl.cut (ua (V (ou D 0 I)) 3 3) 1 0 (x.n % 4) 3) (jd x):=by refine RL.strs.2 ?_;have:=Q.cut (l:=0) (r:=x.n % 4) (m:=3) (by omega) (by show _<=3;omega) (by omega);rw [V9,Vf,xB,VP,<- List.map_take] at this;exact this
  generalize Sl.cut (ua (V (ou C 0 I)) 3 3) 1 0 (1+x.n / 4 % 3) 3=s at*;generalize Sl.cut (ua (V (ou D 0 I)) 3 3) 1 0 (x.n % 4) 3=c' at*;refine st.set0 (w':=Gr.arr {dZ (fo x) with qa4:=jd x} c' n t s pi pi pi) (vx rfl) rfl λa9 st=> ?_;refine ⟨pi,st.ld0 rfl,?_⟩;refine st.runv (B2 0 _) λG6 b3 l6 st=> ?_;refine ⟨_,rfl,st.ld0 rfl,rfl,?_⟩;refine st.newG λa1 G7 a8 l7 a5 _ st=> ?_;have a4:RL G7 (ua (V (ou a1 0 I)) 1 1) [(⟨mY,0⟩:Sy)]:=⟨[_],.cons rfl .nil,RdS.new a5 rfl rfl (qX _)⟩;refine st.run (uF ⟨#[102,105,114,115,116]⟩ 0 a4) λ_ G8 b6 N l8 st=> ?_;obtain ⟨w2,rfl,A⟩:=N;refine ⟨_,rfl,st.ld0 rfl,Mem.len A,?_⟩;obtain ⟨_,_,T⟩:=Sn;refine (st.nilOwn 64 13).push0 T (c:=w2) (Mem.len A) (Mem.st A) (by decide) λs' G9 b5 l9 st b0=> ?_;obtain ⟨P,L,⟨H,hA,hH⟩,st⟩:=st.pin;have a0:RL P s' [bz ⟨#[102,105,114,115,116]⟩ 0 [(⟨mY,0⟩:Sy)]]:=⟨[w2],.cons (Mem.le (aa l9 L) A) .nil,by rw [cI];exact (bP.rd hA).le hH⟩;refine st.set0 (w':=Gr.arr {dZ (fo x) with qa4:=jd x,qa0:=[bz ⟨#[102,105,114,115,116]⟩ 0 [⟨mY,0⟩]]} c' n t s s' pi pi) (vx rfl) rfl λa7 st=> ?_;have E:G5.le P:=aa l6 (aa l7 (aa l8 (aa l9 L)));have J:=aa l5 E;have:=DP (K.le E) (g:={dZ (fo x) with qa4:=jd x,qa0:=[bz ⟨#[102,105,114,115,116]⟩ 0 [⟨mY,0⟩]]}) ⟨c',n,t,s,s',pi,pi,rfl,R.le E,k2.le J,k3.le J,k4.le J,a0,.nil _,.nil _⟩ B st;rw [hm] at this ⊢;exact this
 ·have h:bE x=mY:=by unfold bE;exact ε (by omega)
  have e:cV x=cn (x.qa5 % 8):=by unfold cV;rw [h,Χ rfl]
  rw [e] at B ⊢;have hm:cO x=6:=by unfold cO;rw [h,Χ rfl]
  have h6:x.qa5 % 8 % 6=x.qa5 % 8:=Nat.mod_eq_of_lt (by omega);rw [h6] at O;have:=DP K O B st;rw [hm] at this ⊢;exact this
end
theorem nO {n:Nat}:∀(t:Tr) (S:List Tr),(∀x∈S,∃v l h,x=qa7 v l h/\v<n)->dT n t->∀x∈tY t S,∃v l h,x=qa7 v l h/\v<n
 |qa6 _,S,hS,_=>hS
 |qa7 v l h,S,hS,⟨h1,h2,h3⟩=>by
  unfold tY;split
  ·exact hS
  ·intro x g;rcases vd.1 g with g|g
   ·exact nO h _ (nO l S hS h2) h3 x g
   ·rw [vy.1 g];exact ⟨v,l,h,rfl,h1⟩
theorem Sx.fit {n:Nat} {t:Tr} (h:Sx n t) (w:n<=6):iz (pg t) n:=by refine ⟨Eo h.1 (by have:=h.len w;omega),λb A=> ?_⟩;obtain ⟨x,g,rfl⟩:=w9.1 (show b∈(aU t).map (br (aU t)) from A);obtain ⟨v,l,r,rfl,B⟩:=nO t [] (λx g=>(by cases g)) h.2 x g;show (v:Int)<n;omega
theorem IV {t:Tr} (h:(pg t).2=0):t=qa6 mz:=by
 cases t with
 |qa6 b=>cases b with
  |false=>rfl
  |true=>cases h
 |qa7 v l r=>have:((num (aU (qa7 v l r)) (qa7 v l r):Nat):Int)=0:=h;simp only [num] at this;omega
def SxD (n:Nat) (d:vE):Prop:=∃t,Sx n t/\d=pg t
theorem SxD.fit {n:Nat} {d:vE} (h:SxD n d) (g:n<=6):iz d n:=by obtain ⟨t,h,rfl⟩:=h;exact h.fit g
theorem aY (n:Nat):SxD n dx:=⟨_,Sx.qa6 n mY,rfl⟩
instance (i:Nat) (x:Nd):Decidable (yY i x):=by unfold yY;infer_instance
theorem wB {l:List Nd} (r:l≠[]) (h:∀i:Fin l.length,yY i.1 (l[i.1]'i.2)) (w:(w7 l).Nodup) (g:∀i:Fin (l.length - 1),(i.1:Int)∈w7 l):GoodL l:=
 ⟨r,λi x A=>by obtain ⟨hi,rfl⟩:=N6.1 A;exact h ⟨i,hi⟩,w,λi hi=>g ⟨i,by omega⟩⟩
theorem wC {l:List Nd} (h:GoodL l) (g:l.length<=512):fE l=0:=by unfold fE;rw [Υ (by omega),Χ h]
theorem DQ:GoodL lU.pat:=wB (by decide) (by decide) (by decide) (by decide)
theorem BF:GoodL jC.pat:=wB (by decide) (by decide) (by decide) (by decide)
theorem qh9:GoodL gK.pat:=wB (by decide) (by decide) (by decide) (by decide)
theorem MJ:Xn lU.pat (bs lU.smp):=by
 obtain ⟨K,h⟩:=iF DQ;unfold Xn;generalize bO lU.pat=t at h;have w:lU.pat[lU.pat.length - 1]? =V ⟨2,0,0,0,2⟩:=rfl;have A:lU.pat[0]? =V ⟨1,97,122,0,0⟩:=rfl;have B:lU.pat[2]? =V ⟨4,0,0,1,0⟩:=rfl;cases h with
 |emp g r=>rw [w] at g;cases g;cases r
 |rng g r=>rw [w] at g;cases g;cases r
 |alt g r=>rw [w] at g;cases g;cases r
 |rep g r=>rw [w] at g;cases g;cases r
 | @seq _ a b x t u J nb g r E G H F=>
  rw [w] at g;cases g;obtain rfl:a=0:=by have:(0:Int)=a:=E;omega
  obtain rfl:b=2:=by have:(2:Int)=b:=G;omega
  refine ⟨[120],[],rfl,?_,?_⟩
  ·cases H with
   |emp g r=>rw [A] at g;cases g;cases r
   |seq g r=>rw [A] at g;cases g;cases r
   |alt g r=>rw [A] at g;cases g;cases r
   |rep g r=>rw [A] at g;cases g;cases r
   | @rng _ lo hi x g r D C _ _=>
    rw [A] at g;cases g;refine ⟨120,rfl,?_,?_⟩
    ·have:(97:Int)=lo:=D;omega
    ·have:(122:Int)=hi:=C;omega
  ·cases F with
   |emp g r=>rw [B] at g;cases g;cases r
   |seq g r=>rw [B] at g;cases g;cases r
   |alt g r=>rw [B] at g;cases g;cases r
   |rng g r=>rw [B] at g;cases g;cases r
   |rep g r E h=>exact .nil
abbrev rR (t:Tk):Tk:={t with cond:=dx}
def Vk (done:List ο) (t:Tk):Prop:=t.name≠emp/\t.name ∉ done/\0<=t.cls/\t.cls<=2/\(t.lit≠emp->t.smp=emp/\t.pat=[])/\(t.lit=emp->fE t.pat=0/\(t.cls=0->t.smp≠emp/\Xn t.pat (bs t.smp))/\(t.cls≠0->t.smp=emp))
def IW (done:List ο):List Tk->Prop
 |[]=>True
 |t::r=>Vk done t/\IW (done++[t.name]) r
theorem y4 {n:Nat}:∀(l:List Tk) (g:List ο),IW g (l.map rR)->(∀t∈l,iz t.cond n)->fO n g l
 |[],_,_,_=>trivial
 |t::l,g,⟨⟨h1,h2,h3,h4,h5,h6⟩,h⟩,hf=>⟨⟨h1,h2,h3,h4,hf t (by simp),h5,h6⟩,y4 l _ h λx r=>hf x (by simp [r])⟩
theorem je {g:List ο} {x:ο} (r:x≠emp) (w:x ∉ g):Vk g (YN x):=⟨r,w,Va 0,by show (0:Int)<=2;decide,λ_=>⟨rfl,rfl⟩,λh=>absurd h r⟩
theorem IX:IW [] eX:=by
 refine ⟨⟨by decide,by decide,by decide,by decide,λh=>absurd rfl h,λ_=>⟨wC DQ (by decide),λ_=>⟨by decide,MJ⟩,λh=>absurd rfl h⟩⟩,je (by decide) (by decide),je (by decide) (by decide),je (by decide) (by decide),je (by decide) (by decide),je (by decide) (by decide),je (by decide) (by decide),je (by decide) (by decide),je (by decide) (by decide),?_,?_,trivial⟩
 ·exact ⟨by decide,by decide,by decide,by decide,λh=>absurd rfl h,λ_=>⟨wC BF (by decide),λh=>(by cases h),λ_=>rfl⟩⟩
 ·exact ⟨by decide,by decide,by decide,by decide,λh=>absurd rfl h,λ_=>⟨wC qh9 (by decide),λh=>(by cases h),λ_=>rfl⟩⟩
def abc:List ο:=[⟨#[65]⟩,⟨#[66]⟩,⟨#[67]⟩]
structure PrI (n nn:Nat) (p:Pr):Prop where
 cond:SxD n p.cond
 left:0<=p.left/\p.left<nn
 rl:p.right.length<=5
 right:∀s∈p.right,0<=s.i/\(s.t=mY->s.i<9)/\(s.t=mz->s.i<nn)
 rank: -1<=p.rank/\p.rank<=1
 lay:p.lay.length<=2
 det:lh p
 nm:p.name≠emp/\p.name.size<=13
structure MG (g:Gr):Prop where
 cs:∃n,n<=3/\g.qa4=abc.take n
 fam:∃t,Sx g.qa4.length t/\t≠qa6 mz/\g.fam=pg t
 qa1:bG g.qa1/\∀s∈g.qa1,s.size<=10
 start:g.start=0
 qa2:g.qa2.map rR=eX/\∀t∈g.qa2,SxD g.qa4.length t.cond
 names:(g.qa0.map Pr.name).Nodup/\∀p∈g.qa0,∀k,g.qa0.length<=k->k<100->p.name≠bg k
 qa0:∀p∈g.qa0,PrI g.qa4.length g.qa1.length p
 lvs:eF g [] g.lvs/\∀l∈g.lvs,SxD g.qa4.length l.cond
 fils:∀x∈g.fils,co g x/\SxD g.qa4.length x.cond/\x.qa2.length<=2
theorem MG.tok {g:Gr} (h:MG g) {i:Nat} (hi:i<9):∃t,g.qa2[i]? =V t/\t.cls=0:=by
 have C:g.qa2.length=11:=by have:=congrArg List.length h.qa2.1;rw [ub] at this;exact this
 have r:=N5 (show i<g.qa2.length by omega);refine ⟨_,r,?_⟩;have w:=congrArg (λl=>l[i]?) h.qa2.1;simp only [yc,r,Vz] at w;have A:∀j:Fin 9,∀t,eX[j.1]? =V t->t.cls=0:=by
  intro j t B;have:∀j:Fin 9,(eX[j.1]?).map Tk.cls=V 0:=by decide
  have:=this j;rw [B] at this;exact yC this
 exact A ⟨i,hi⟩ (rR _) w.symm
theorem MG.sym {g:Gr} (h:MG g) {s:Sy} (r:0<=s.i/\(s.t=mY->s.i<9)/\(s.t=mz->s.i<g.qa1.length)):mv g s:=by refine ⟨r.1,r.2.2,λw=>h.tok (by have:=r.2.1 w;omega)⟩
theorem y5 {g:Gr}:∀(l:List Pr) (r:List ο),(∀p∈l,jh g p/\p.name≠emp/\iz p.cond g.qa4.length/\-1<=p.rank/\p.rank<=1/\lh p)->(r++l.map Pr.name).Nodup->eD g r l=0
 |[],_,_,_=>rfl
 |p::l,r,h,hn=>by
  obtain ⟨E,A,F,G,D,H⟩:=h p (by simp);have w:p.name ∉ r:=λB=>by rw [xw,Vw] at hn;exact hn.2.2 _ B _ (by simp) rfl
  unfold eD;rw [Υ (μ E),Υ (μ ⟨A,w,F,G,D,H⟩)];refine y5 l _ (λq C=>h q (by simp [C])) ?_;rw [xK];exact hn
theorem Se {n:Nat} (r:n<=3):(∀s∈abc.take n,so s)/\bG (abc.take n)/\(abc.take n).length<=3:=by
 have h:n=0\/n=1\/n=2\/n=3:=by omega
 have ok:∀s∈abc,so s:=by
  intro s g;unfold so;rcases tD.1 g with rfl|g
  ·decide+kernel
  rcases tD.1 g with rfl|g
  ·decide+kernel
  rcases tD.1 g with rfl|g
  ·decide+kernel
  cases g
 refine ⟨λs g=>ok s (YI g),?_,by rw [zZ];omega⟩;unfold bG;rcases h with rfl|rfl|rfl|rfl<;>decide
theorem MG.ok {g:Gr} {a b:Nat} (h:MG g) (w:Bd g a b) (ha:a<=2000) (L:b<=2000):OkG g:=by
 obtain ⟨n,Q,E⟩:=h.cs;have N:=w.c;have J:=w.p;have M:=w.n;have G:=w.t;have F:=w.l;have K:=w.f;obtain ⟨t,C,B,D⟩:=h.fam;obtain ⟨R,H,X⟩:=Se Q;refine ⟨?_,⟨by rw [E];exact R,by rw [E];exact H,by rw [D];exact C.fit (by omega),λe=>B (IV (by rw [<- D];exact e))⟩,?_,⟨h.qa1.1,by rw [h.start];exact Va 0,by rw [h.start];have:=w.n0;omega⟩,?_,h.lvs.1,λx O=>(h.fils x O).1⟩
 ·unfold dN;rw [Bool.or_eq_false_iff];refine ⟨η (by omega),?_⟩;rw [List.any_eq_false];intro p A;have h1:=(h.qa0 p A).rl;have W:=(h.qa0 p A).lay;rw [δ];omega
 ·refine y4 _ _ ?_ λt C=>(h.qa2.2 t C).fit (by omega);rw [h.qa2.1];exact IX
 ·refine y5 _ _ (λp A=> ?_) (by rw [zE];exact h.names.1);have r:=h.qa0 p A;exact ⟨⟨h.sym ⟨r.left.1,λh=>(by cases h),λ_=>r.left.2⟩,λs P=>h.sym (r.right s P)⟩,r.nm.1,r.cond.fit (by omega),r.rank.1,r.rank.2,r.det⟩
theorem MG.sz {g:Gr} {a b:Nat} (h:MG g) (A:Bd g a b):Sz g:=by
 refine ⟨λs r=> ?_,λt D=> ?_,λl E=> ?_,λf B=> ?_⟩
 ·obtain ⟨n,F,C⟩:=h.cs;rw [C] at r;have:∀s∈abc,s.size<=1000000000:=by decide
  exact this s (YI r)
 ·have:rR t∈eX:=by rw [<- h.qa2.1];exact List.mem_map_of_mem D
  have w:∀u∈eX.map Tk.smp,u.size<=100000:=by decide
  exact w _ (w9.2 ⟨_,this,rfl⟩)
 ·have:=A.lp l E;omega
 ·have:=(h.fils f B).2.2;omega
theorem eI {g g':Gr} (A:g'.qa4.length=g.qa4.length) (B:g.qa0.length<=g'.qa0.length):∀(l:List Lv) (r:Φ),eF g r l->eF g' r l
 |[],_,_=>trivial
 |x::l,r,⟨⟨h1,h2,h3,h4,h5⟩,h⟩=>⟨⟨h1,h2,by rw [A];exact h3,λp w=>⟨(h4 p w).1,by have:=(h4 p w).2;omega⟩,h5⟩,eI A B l _ h⟩
theorem BG {g:Gr} {C:List Pr} {x:Fi} (h:co g x):co {g with qa0:=g.qa0++C} x:=by
 refine ⟨h.1,?_⟩;rcases h.2 with ⟨k,⟨a,b,c,p,q,A,w,B⟩,r⟩|h|h
 ·exact .inl ⟨k,⟨a,b,c,p,q,by rw [zR (N6.1 A).1];exact A,by rw [zR (N6.1 w).1];exact w,B⟩,r⟩
 ·exact .inr (.inl h)
 ·exact .inr (.inr h)
theorem qhM {i k:Nat} (hi:i<100) (B:k<100) (h:bg i=bg k):i=k:=by
 have r:(#[112,UInt8.ofNat (97+i)]:Array UInt8)= #[112,UInt8.ofNat (97+k)]:=congrArg ByteArray.data h;have g:=congrArg (λa=>a[1]?) r;have w:UInt8.ofNat (97+i)=UInt8.ofNat (97+k):=by simpa using g
 have A:=congrArg UInt8.toNat w;simp at A;omega
theorem MG.line {g:Gr} (h:MG g) {p:Pr} (C:p.name=bg g.qa0.length) (F:PrI g.qa4.length g.qa1.length p) (D:g.qa0.length<100):MG {g with qa0:=g.qa0++[p]}:=by
 refine ⟨h.cs,h.fam,h.qa1,h.start,h.qa2,⟨?_,λq r k B w=> ?_⟩,λq r=> ?_,⟨eI (g:=g) (g':={g with qa0:=g.qa0++[p]}) rfl (by show _<=(g.qa0++[p]).length;rw [tT];omega) _ _ h.lvs.1,h.lvs.2⟩,λx A=>⟨BG (h.fils x A).1,(h.fils x A).2⟩⟩
 ·show ((g.qa0++[p]).map Pr.name).Nodup;rw [yT,Vw];refine ⟨h.names.1,by simp,λx A y E=> ?_⟩;rw [xw,List.map_nil,vy] at E;obtain ⟨q,r,rfl⟩:=w9.1 A;rw [E,C];exact h.names.2 q r _ (qX _) D
 ·replace B:(g.qa0++[p]).length<=k:=B;rw [tT,Uc] at B;rcases vd.1 r with r|r
  ·exact h.names.2 q r k (by omega) w
  ·rw [vy.1 r,C];intro e;have:=qhM D w e;omega
 ·rcases vd.1 r with r|r
  ·exact h.qa0 q r
  ·rw [vy.1 r];exact F
theorem nP (r:List Sy) (lo hi:Int):d6 r 0 0 lo hi:=.inl ⟨rfl,rfl⟩
theorem IY {g:Gr} (x:Ln) (E:g.qa4.length<=3) (r:g.qa1.length≠0):PrI g.qa4.length g.qa1.length (jb g x):=by
 have w:(aP g.qa1.length x).length<=4:=by unfold aP;rw [ub,zZ];omega
 refine ⟨⟨_,lY (by omega),rfl⟩,⟨by show (0:Int)<=((x.left % g.qa1.length:Nat):Int);omega,?_⟩,by show (aP _ _).length<=5;omega,λs C=> ?_,⟨by show (-1:Int)<=0;decide,by show (0:Int)<=1;decide⟩,by show 0<=2;decide,⟨λy B=>(by cases B),nP _ _ _,nP _ _ _,λh=>(by cases h)⟩,?_,?_⟩
 ·show ((x.left % g.qa1.length:Nat):Int)<_;have:=V7 x.left (Nat.pos_of_ne_zero r);omega
 ·obtain ⟨b,D,rfl⟩:=w9.1 (show s∈(x.right.take 4).map (lW g.qa1.length) from C);unfold lW;split
  ·exact ⟨by show (0:Int)<=((b % 14:Nat):Int);omega,λ_=>by show ((b % 14:Nat):Int)<9;omega,λh=>(by cases h)⟩
  ·refine ⟨by show (0:Int)<=(((b % 14 - 9) % g.qa1.length:Nat):Int);omega,λh=>(by cases h),λ_=> ?_⟩;show (((b % 14 - 9) % g.qa1.length:Nat):Int)<_;have:=V7 (b % 14 - 9) (Nat.pos_of_ne_zero r);omega
 ·intro e;have A:(2:Nat)=0:=congrArg ByteArray.size (show bg g.qa0.length=emp from e);cases A
 ·show (bg g.qa0.length).size<=13;show 2<=13;decide
theorem MK {n M:Nat} {p:Pr} (h:PrI n M p) (_:p.rank=0) (_:p.lay=[]) (P:p.sco=kg) (H:p.brk=mz) (m:Nat):PrI n M (cD p m):=by
 obtain ⟨w,D,B,A,F,E,g,C⟩:=h;have Q:∀r,d6 r kg.d kg.k 1 7:=λr=>nP r _ _;have R:∀r,d6 r kg.u kg.a 0 255:=λr=>nP r _ _;have hl:∀{q:Pr},q.lay=[]->∀x∈q.lay,BW q.right x:=λe x K=>by rw [e] at K;cases K
 unfold cD;split
 ·exact ⟨w,D,B,A,F,E,g,C⟩
 rename_i L;split
 ·exact ⟨w,D,B,A,⟨by show (-1:Int)<=1;decide,by show (1:Int)<=1;decide⟩,E,⟨g.1,g.2.1,g.2.2.1,λh=>by rw [show (p.brk=mY)=(mz=mY) by rw [H]] at h;cases h⟩,C⟩
 split
 ·exact ⟨w,D,B,A,⟨by show (-1:Int)<=-1;decide,by show (-1:Int)<=1;decide⟩,E,⟨g.1,g.2.1,g.2.2.1,λh=>by rw [show (p.brk=mY)=(mz=mY) by rw [H]] at h;cases h⟩,C⟩
 split
 ·refine ⟨w,D,B,A,F,E,⟨g.1,g.2.1,g.2.2.1,λh=> ?_⟩,C⟩;have:BX p:=by have:wx p=mY:=h;unfold wx at this;simpa using this
  exact this
 have N:0<p.right.length:=Nat.pos_of_ne_zero L;split
 ·have X:=V7 (m / 8 / 4) N;refine ⟨w,D,B,A,F,by show 1<=2;decide,⟨λx K=> ?_,g.2.1,g.2.2.1,λh=>by rw [show (p.brk=mY)=(mz=mY) by rw [H]] at h;cases h⟩,C⟩;rw [vy.1 K];refine ⟨by show (1:Int)<=((1+m / 8 % 4:Nat):Int);omega,by show ((1+m / 8 % 4:Nat):Int)<=4;omega,by show (0:Int)<=((m / 8 / 4 % p.right.length:Nat):Int);omega,by show ((m / 8 / 4 % p.right.length:Nat):Int)<p.right.length;omega,?_,?_,λh=> ?_⟩
  ·show (0:Int)<=if m / 8 % 4=0 then 0 else ((p.right.length - 1:Nat):Int)
   split<;>omega
  ·show (if m / 8 % 4=0 then (0:Int) else ((p.right.length - 1:Nat):Int))<p.right.length;split<;>omega
  ·have h:((1+m / 8 % 4:Nat):Int)=1:=h;show (if m / 8 % 4=0 then (0:Int) else ((p.right.length - 1:Nat):Int))=0;rw [Χ (by omega)]
 split
 ·exact ⟨w,D,B,A,F,E,⟨g.1,by show d6 p.right p.sco.d p.sco.k 1 7;rw [P];exact Q _,by show d6 p.right p.sco.u p.sco.a 0 255;rw [P];exact R _,λh=>by rw [show (p.brk=mY)=(mz=mY) by rw [H]] at h;cases h⟩,C⟩
 have J:=V7 (m / 8) N;have O:(p.right.getD (m / 8 % p.right.length) ⟨mz,0⟩).t=mY->∃s,p.right[(((m / 8 % p.right.length+1:Nat):Int) - 1).toNat]? =V s/\s.t=mY:=λG=>by rw [show (((m / 8 % p.right.length+1:Nat):Int) - 1).toNat=m / 8 % p.right.length by omega];refine ⟨_,N5 J,?_⟩;rw [Q0,N5 J] at G;exact G
 split
 ·split
  ·rename_i G;exact ⟨w,D,B,A,F,E,⟨g.1,.inr ⟨by show (0:Int)<((m / 8 % p.right.length+1:Nat):Int);omega,by show ((m / 8 % p.right.length+1:Nat):Int)<=p.right.length;omega,O G,by show (1:Int)<=((1+m / 8 % 2:Nat):Int);omega,by show ((1+m / 8 % 2:Nat):Int)<=7;omega⟩,nP _ _ _,λh=>by rw [show (p.brk=mY)=(mz=mY) by rw [H]] at h;cases h⟩,C⟩
  ·exact ⟨w,D,B,A,F,E,g,C⟩
 split
 ·split
  ·rename_i G;exact ⟨w,D,B,A,F,E,⟨g.1,nP _ _ _,.inr ⟨by show (0:Int)<((m / 8 % p.right.length+1:Nat):Int);omega,by show ((m / 8 % p.right.length+1:Nat):Int)<=p.right.length;omega,O G,by show (0:Int)<=((1+m / 8 % 7:Nat):Int);omega,by show ((1+m / 8 % 7:Nat):Int)<=255;omega⟩,λh=>by rw [show (p.brk=mY)=(mz=mY) by rw [H]] at h;cases h⟩,C⟩
  ·exact ⟨w,D,B,A,F,E,g,C⟩
 ·exact ⟨w,D,B,A,F,E,g,C⟩
theorem rS (p:Pr) (m:Nat):(cD p m).name=p.name:=by
 unfold cD
 repeat' split
 all_goals rfl
theorem MG.lineG {g:Gr} (h:MG g) {a b:Nat} (r:Bd g a b) (B:a<100) (x:Ln) (w:Bool):MG (lineG g x w):=by
 have A:=r.p;unfold Go.Proofs.YteilolbbgieadaaGreatDoor.lineG;split
 ·exact h
 ·exact h.line (by rw [rS];rfl) (MK (IY x r.c r.n0) rfl rfl rfl rfl _) (by omega)
theorem rT {g:Gr} {y:Lv}:∀(l:List Lv) (r:Φ),eF g r l->Sm g (r++l.flatMap Lv.ps) y->eF g r (l++[y])
 |[],r,_,h=>by simp only [List.flatMap_nil,yn] at h;exact ⟨h,trivial⟩
 |x::l,r,⟨h1,h2⟩,h=>⟨h1,rT l _ h2 (by rw [xK];exact h)⟩
theorem MG.fil {g:Gr} (h:MG g) {y:Fi} (hd:SxD g.qa4.length y.cond) (w:y.qa2.length<=2):MG (jY g y):=by
 unfold jY;split
 ·rename_i A;refine ⟨h.cs,h.fam,h.qa1,h.start,h.qa2,h.names,h.qa0,⟨eI (g:=g) (by rfl) (by exact qX _) _ _ h.lvs.1,h.lvs.2⟩,λx r=> ?_⟩;rcases vd.1 r with r|r
  ·exact h.fils x r
  ·rw [vy.1 r];exact ⟨A,hd,w⟩
 ·exact h
theorem MG.lvl {g:Gr} (h:MG g) {a b:Nat} (B:Bd g a b) (x:Ru):MG (nN g x):=by
 have w:0<g.qa0.length:=Nat.pos_of_ne_zero B.p0;have hd:SxD g.qa4.length (yA g x):=⟨_,lY (by have:=B.c;omega),rfl⟩;have F:=V7 x.a w;have E:=V7 x.b w;unfold nN;split
 ·exact h
 ·rename_i C;refine ⟨h.cs,h.fam,h.qa1,h.start,h.qa2,h.names,h.qa0,⟨eI (g:=g) (by rfl) (by exact qX _) _ _ (rT _ _ h.lvs.1 ?_),λy A=> ?_⟩,h.fils⟩
  ·rw [zE];refine ⟨by show (0:Int)<=((x.c % 4:Nat):Int);omega,by show ((x.c % 4:Nat):Int)<=3;omega,hd.fit (by have:=B.c;omega),λp r=> ?_,?_,λp r=> ?_⟩
   ·rcases tD.1 r with rfl|r
    ·omega
    ·split at r
     ·rw [vy.1 r];omega
     ·cases r
   ·show (_::_).Nodup;rw [WT];split
    ·rename_i D;refine ⟨?_,by simp⟩;rw [vy];omega
    ·exact ⟨by simp,.nil⟩
   ·rcases tD.1 r with rfl|r
    ·exact C
    ·split at r
     ·rename_i D;rw [vy.1 r];exact D.2
     ·cases r
  ·rcases vd.1 A with A|A
   ·exact h.lvs.2 y A
   ·rw [vy.1 A];exact hd
theorem Gj {g g':Gr} (O:g'.qa4=g.qa4) (N:g'.qa0=g.qa0) (L:g'.qa1=g.qa1) (K:∀(i:Nat) (t:Tk),g.qa2[i]? =V t->∃w:Tk,g'.qa2[i]? =V w/\w.cls=t.cls/\w.lit=t.lit) {x:Fi} (h:co g x):co g' x:=by
 unfold co at h ⊢;unfold oK at h ⊢;rw [O,N,L];refine ⟨h.1,?_⟩;rcases h.2 with h|⟨k,⟨a,b,c1,G,H⟩,r⟩|⟨k,⟨⟨c1,G,H⟩,a,t,B,A,M⟩,r⟩
 ·exact .inl h
 ·refine .inr (.inl ⟨k,⟨a,b,c1,λn F=> ?_,H⟩,r⟩);obtain ⟨J,t,B,A⟩:=G n F;obtain ⟨w,C,D,E⟩:=K _ _ B;exact ⟨J,w,C,by show decide (w.cls=0)=mY;rw [D];exact A⟩
 ·obtain ⟨w,C,D,E⟩:=K _ _ B;refine .inr (.inr ⟨k,⟨⟨c1,λn F=> ?_,H⟩,a,w,C,by rw [D];exact A,by rw [E];exact M⟩,r⟩);obtain ⟨J,t,B,A⟩:=G n F;obtain ⟨w,C,D,E⟩:=K _ _ B;exact ⟨J,w,C,by show (!decide (w.lit=emp))=mY;rw [E];exact A⟩
theorem MG.tokG {g:Gr} (h:MG g) {a b:Nat} (A:Bd g a b) (x:Ru):MG (tokG g x):=by
 have hd:SxD g.qa4.length (yA g x):=⟨_,lY (by have:=A.c;omega),rfl⟩;unfold Go.Proofs.YteilolbbgieadaaGreatDoor.tokG;refine ⟨h.cs,h.fam,h.qa1,h.start,⟨?_,λt r=> ?_⟩,h.names,h.qa0,⟨eI (g:=g) (by rfl) (by exact qX _) _ _ h.lvs.1,h.lvs.2⟩,λy w=>⟨Gj (g:=g) (by rfl) (by rfl) (by rfl) (λi t r=> ?_) (h.fils y w).1,(h.fils y w).2⟩⟩
 ·rw [<- h.qa2.1];apply WJ;intro i;simp only [yc,YH];cases g.qa2[i]? with
  |none=>rfl
  |some t=>simp only [Vz];split<;>rfl
 ·obtain ⟨i,hi⟩:=List.mem_iff_getElem?.1 r;rw [YH] at hi;cases ht':g.qa2[i]? with
  |none=>rw [ht'] at hi;simp at hi
  |some u=>
   rw [ht'] at hi;simp only [Option.map_eq_map,Vz,Option.some.injEq] at hi;subst hi;split
   ·exact hd
   ·exact h.qa2.2 u (vQ ht')
 ·show ∃B,(g.qa2.modify (x.a % 9) _)[i]? =V B/\_;rw [YH,r];refine ⟨_,rfl,?_⟩;simp only [];split<;>exact ⟨rfl,rfl⟩
theorem MG.ruleG {g:Gr} (h:MG g) {a b:Nat} (r:Bd g a b) (x:Ru):MG (ruleG g x):=by
 have hd:SxD g.qa4.length (yA g x):=⟨_,lY (by have:=r.c;omega),rfl⟩;unfold Go.Proofs.YteilolbbgieadaaGreatDoor.ruleG;split
 ·exact h.lvl r x
 split
 ·exact h.fil hd (by show 0<=2;decide)
 split
 ·exact h.fil hd (by show 1<=2;decide)
 split
 ·exact h.fil hd (by show 1<=2;decide)
 ·exact h.tokG r x
theorem MG.lines {x:Rw}:∀(l:List Ln) {g:Gr} {a b:Nat},MG g->Bd g a b->a+l.length<100->MG (dv x l g)
 |[],g,a,b,h,_,_=>h
 |y::l,g,a,b,h,hb,hl=>by rw [wc] at hl;exact MG.lines (x:=x) l (h.lineG hb (by omega) y (bE x)) (DM hb y (bE x)) (by omega)
theorem MG.rules:∀(l:List Ru) {g:Gr} {a b:Nat},MG g->Bd g a b->MG (dM l g)
 |[],_,_,_,h,_=>h
 |y::l,_,_,_,h,hb=>MG.rules l (h.ruleG hb y) (DN hb y)
theorem MG.famG {g:Gr} (h:MG g) {a b:Nat} (r:Bd g a b) (x:Rw):MG (famG x g):=by
 unfold Go.Proofs.YteilolbbgieadaaGreatDoor.famG;split
 ·rename_i w;refine ⟨h.cs,⟨yV x g.qa4.length,wA (n:=g.qa4.length) _ (by have:=r.c;omega) g.qa4.length 0 0 (by omega),λe=>w.2 (by rw [e];rfl),rfl⟩,h.qa1,h.start,h.qa2,h.names,h.qa0,⟨eI (g:=g) (by rfl) (by exact qX _) _ _ h.lvs.1,h.lvs.2⟩,h.fils⟩
 ·exact h
instance decSy (q:Option Sy):Decidable (∃s,q=V s/\s.t=mY):=
 match q with
 |none=>isFalse λ⟨_,h,_⟩=>by cases h
 |some s=>if h:s.t=mY then isTrue ⟨s,rfl,h⟩ else isFalse λ⟨_,h1,h2⟩=>by cases h1;exact h h2
instance decEntry (r:List Sy) (k v lo hi:Int):Decidable (d6 r k v lo hi):=by unfold d6;infer_instance
instance decLay (r:List Sy) (x:Cn):Decidable (BW r x):=by unfold BW;infer_instance
instance decBrk (p:Pr):Decidable (BX p):=by unfold BX;infer_instance
instance decDet (p:Pr):Decidable (lh p):=by unfold lh;infer_instance
def Sf (nn:Nat) (p:Pr):Prop:=(0<=p.left/\p.left<nn)/\p.right.length<=5/\(∀s∈p.right,0<=s.i/\(s.t=mY->s.i<9)/\(s.t=mz->s.i<nn))/\(-1<=p.rank/\p.rank<=1)/\p.lay.length<=2/\lh p/\(p.name≠emp/\p.name.size<=13)
instance decPri (nn:Nat) (p:Pr):Decidable (Sf nn p):=by unfold Sf;infer_instance
theorem bi {n g:Nat} {p:Pr} (h:Sf g p) (D:SxD n p.cond):PrI n g p:=by obtain ⟨B,w,C,E,A,F,r⟩:=h;exact ⟨D,B,w,C,E,A,F,r⟩
theorem fM {n v:Nat} (h:v<n) (g:n<=6):SxD n (pg (tv v)):=⟨_,Sx.tv h g,rfl⟩
theorem pR {n v:Nat} (h:v<n) (g:n<=6):SxD n (yQ v):=⟨_,(Sx.tv h g).ap2 (Sx.qa6 n mY),rfl⟩
def ML (s:ο):Prop:=s.size≠2\/s.data[0]?≠V 112
instance (s:ο):Decidable (ML s):=by unfold ML;infer_instance
theorem MM {s:ο} (h:ML s) (k:Nat):s≠bg k:=by
 intro e;rcases h with h|h
 ·exact h (by rw [e];rfl)
 ·exact h (by rw [e];rfl)
theorem rU {g:Gr} {n:Nat} (B:n<=3) (K:g.qa4=abc.take n) (G:g.fam=dx) (r:g.qa2=eX) (E:g.start=0) (H:bG g.qa1) (C:∀s∈g.qa1,s.size<=10) (A:(g.qa0.map Pr.name).Nodup) (L:∀s∈g.qa0.map Pr.name,ML s)
  (D:∀p∈g.qa0,PrI g.qa4.length g.qa1.length p) (J:eF g [] g.lvs/\∀l∈g.lvs,SxD g.qa4.length l.cond) (w:∀x∈g.fils,co g x/\SxD g.qa4.length x.cond/\x.qa2.length<=2):MG g:=by
 have e:eX.map rR=eX:=rfl;refine ⟨⟨n,B,K⟩,⟨_,Sx.qa6 _ mY,by simp,G⟩,⟨H,C⟩,E,⟨by rw [r];exact e,λt h=> ?_⟩,⟨A,λp F k _ _=>MM (L _ (List.mem_map_of_mem F)) k⟩,D,J,w⟩;rw [r,<- e] at h;obtain ⟨u,_,rfl⟩:=w9.1 h;exact aY _
theorem MN {g:Gr} (r:g.qa2=eX) (i:Nat) {kd:Tk->Bool} {t:Tk} (h:eX[i]? =V t) (w:kd t=mY):0<=(i:Int)/\∃t,g.qa2[(i:Int).toNat]? =V t/\kd t=mY:=⟨by omega,t,by rw [r,N4];exact h,w⟩
theorem Vl {g:Gr} {kd:Tk->Bool} {i:Int} (h:0<=i/\∃t,g.qa2[i.toNat]? =V t/\kd t=mY):fN g kd [i]:=by refine ⟨by simp,λn r=>by rw [vy.1 r];exact h,λj x y _ w=> ?_⟩;simp at w
theorem qgv {g:Gr} {kd:Tk->Bool} {i j:Int} (h:0<=i/\∃t,g.qa2[i.toNat]? =V t/\kd t=mY) (C:0<=j/\∃t,g.qa2[j.toNat]? =V t/\kd t=mY) (w:i<j):fN g kd [i,j]:=by
 refine ⟨by simp,λn r=> ?_,λk x y B A=> ?_⟩
 ·rcases tD.1 r with rfl|r
  ·exact h
  ·rw [vy.1 r];exact C
 ·match k with
  |0=>simp at B A;subst B A;exact w
  |k+1=>simp at A
theorem qhm:MG bZ:=by
 refine rU (n:=2) (by decide) rfl rfl rfl rfl (by unfold bG;decide) (by decide) (by decide) (by decide) (λp g=> ?_) ⟨?_,?_⟩ ?_
 ·rcases tD.1 g with rfl|g
  ·exact bi (by decide) (aY _)
  rcases tD.1 g with rfl|g
  ·exact bi (by decide) (aY _)
  rcases tD.1 g with rfl|g
  ·exact bi (by decide) (aY _)
  rcases tD.1 g with rfl|g
  ·exact bi (by decide) (aY _)
  rcases tD.1 g with rfl|g
  ·exact bi (by decide) (fM (by decide) (by decide))
  cases g
 ·refine ⟨⟨by decide,by decide,(aY 2).fit (by decide),by decide,by decide,by decide⟩,⟨by decide,by decide,(aY 2).fit (by decide),by decide,by decide,by decide⟩,⟨by decide,by decide,(pR (n:=2) (v:=0) (by decide) (by decide)).fit (by decide),by decide,by decide,by decide⟩,trivial⟩
 ·intro l h;rcases tD.1 h with rfl|h
  ·exact aY _
  rcases tD.1 h with rfl|h
  ·exact aY _
  rcases tD.1 h with rfl|h
  ·exact pR (by decide) (by decide)
  cases h
 ·intro x r;cases r
theorem qhw:MG bQ:=by
 refine rU (n:=2) (by decide) rfl rfl rfl rfl (by unfold bG;decide) (by decide) (by decide) (by decide) (λp g=> ?_) ⟨?_,?_⟩ ?_
 ·rcases tD.1 g with rfl|g
  ·exact bi (by decide) (aY _)
  rcases tD.1 g with rfl|g
  ·exact bi (by decide) (aY _)
  rcases tD.1 g with rfl|g
  ·exact bi (by decide) (aY _)
  rcases tD.1 g with rfl|g
  ·exact bi (by decide) (aY _)
  rcases tD.1 g with rfl|g
  ·exact bi (by decide) (aY _)
  cases g
 ·trivial
 ·intro l r;cases r
 ·intro x h;rcases tD.1 h with rfl|h
  ·exact ⟨⟨(fM (n:=2) (v:=0) (by decide) (by decide)).fit (by decide),.inl ⟨.inr rfl,⟨by decide,by decide,by decide,_,_,rfl,rfl,rfl⟩,rfl,rfl,rfl⟩⟩,fM (by decide) (by decide),by decide⟩
  rcases tD.1 h with rfl|h
  ·exact ⟨⟨(fM (n:=2) (v:=1) (by decide) (by decide)).fit (by decide),.inr (.inr ⟨rfl,⟨qgv (MN rfl 5 rfl (by decide)) (MN rfl 6 rfl (by decide)) (by decide),by decide,_,rfl,rfl,rfl⟩,rfl,rfl,rfl,rfl⟩)⟩,fM (by decide) (by decide),by decide⟩
  cases h
theorem qhg:MG aQ:=by
 refine rU (n:=2) (by decide) rfl rfl rfl rfl (by unfold bG;decide) (by decide) (by decide) (by decide) (λp g=> ?_) ⟨?_,?_⟩ ?_
 ·rcases tD.1 g with rfl|g
  ·exact bi (by decide) (aY _)
  rcases tD.1 g with rfl|g
  ·exact bi (by decide) (aY _)
  rcases tD.1 g with rfl|g
  ·exact bi (by decide) (aY _)
  rcases tD.1 g with rfl|g
  ·exact bi (by decide) (aY _)
  rcases tD.1 g with rfl|g
  ·exact bi (by decide) (aY _)
  rcases tD.1 g with rfl|g
  ·exact bi (by decide) (aY _)
  rcases tD.1 g with rfl|g
  ·exact bi (by decide) (fM (by decide) (by decide))
  cases g
 ·trivial
 ·intro l r;cases r
 ·intro x h;cases h
theorem Gk:MG ik:=by
 refine rU (n:=2) (by decide) rfl rfl rfl rfl (by unfold bG;decide) (by decide) (by decide) (by decide) (λp g=> ?_) ⟨?_,?_⟩ ?_
 ·rcases tD.1 g with rfl|g
  ·exact bi (by decide) (aY _)
  rcases tD.1 g with rfl|g
  ·exact bi (by decide) (aY _)
  rcases tD.1 g with rfl|g
  ·exact bi (by decide) (aY _)
  rcases tD.1 g with rfl|g
  ·exact bi (by decide) (aY _)
  rcases tD.1 g with rfl|g
  ·exact bi (by decide) (fM (by decide) (by decide))
  cases g
 ·trivial
 ·intro l r;cases r
 ·intro x h;cases h
theorem BH:MG fK:=by
 refine rU (n:=2) (by decide) rfl rfl rfl rfl (by unfold bG;decide) (by decide) (by decide) (by decide) (λp g=> ?_) ⟨?_,?_⟩ ?_
 ·rcases tD.1 g with rfl|g
  ·exact bi (by decide) (aY _)
  rcases tD.1 g with rfl|g
  ·exact bi (by decide) (aY _)
  rcases tD.1 g with rfl|g
  ·exact bi (by decide) (aY _)
  rcases tD.1 g with rfl|g
  ·exact bi (by decide) (aY _)
  rcases tD.1 g with rfl|g
  ·exact bi (by decide) (aY _)
  rcases tD.1 g with rfl|g
  ·exact bi (by decide) (fM (by decide) (by decide))
  cases g
 ·trivial
 ·intro l r;cases r
 ·intro x h;rcases tD.1 h with rfl|h
  ·exact ⟨⟨(fM (n:=2) (v:=0) (by decide) (by decide)).fit (by decide),.inr (.inl ⟨.inl rfl,⟨by decide,by decide,Vl (MN rfl 0 rfl (by decide))⟩,rfl,rfl,rfl,rfl⟩)⟩,fM (by decide) (by decide),by decide⟩
  rcases tD.1 h with rfl|h
  ·exact ⟨⟨(pR (n:=2) (v:=1) (by decide) (by decide)).fit (by decide),.inr (.inl ⟨.inr rfl,⟨by decide,by decide,Vl (MN rfl 1 rfl (by decide))⟩,rfl,rfl,rfl,rfl⟩)⟩,pR (by decide) (by decide),by decide⟩
  cases h
theorem BI:MG fL:=by
 refine rU (n:=2) (by decide) rfl rfl rfl rfl (by unfold bG;decide) (by decide) (by decide) (by decide) (λp g=> ?_) ⟨?_,?_⟩ ?_
 ·rcases tD.1 g with rfl|g
  ·exact bi (by decide) (aY _)
  rcases tD.1 g with rfl|g
  ·exact bi (by decide) (aY _)
  rcases tD.1 g with rfl|g
  ·exact bi (by decide) (aY _)
  rcases tD.1 g with rfl|g
  ·exact bi (by decide) (aY _)
  rcases tD.1 g with rfl|g
  ·exact bi (by decide) (fM (by decide) (by decide))
  cases g
 ·trivial
 ·intro l r;cases r
 ·intro x h;cases h
theorem IZ {k:Nat} (g:k<6):MG (cn k):=by
 have h:k=0\/k=1\/k=2\/k=3\/k=4\/k=5:=by omega
 rcases h with rfl|rfl|rfl|rfl|rfl|rfl
 ·exact qhm
 ·exact qhw
 ·exact qhg
 ·exact Gk
 ·exact BH
 ·exact BI
theorem I0 (x:Rw):MG (cV x):=by
 unfold cV;split
 ·rename_i h;exact IZ (ζ h)
 ·have B:(fo x).length≠0:=by unfold fo;rw [zZ];simp
  refine rU (n:=x.n % 4) (by omega) rfl rfl rfl rfl ?_ (λs g=> ?_) (by show ([⟨#[102,105,114,115,116]⟩]:List ο).Nodup;simp) (λs g=>by rw [vy.1 (show s∈([⟨#[102,105,114,115,116]⟩]:List ο) from g)];decide) (λp w=> ?_) ⟨trivial,λl r=>(by cases r)⟩ λx A=>by cases A
  ·have h:x.n / 4 % 3=0\/x.n / 4 % 3=1\/x.n / 4 % 3=2:=by omega
   show bG (fo x);unfold fo;rcases h with h|h|h<;>rw [h]<;>(unfold bG;decide)
  ·have:∀s∈([⟨#[83]⟩,⟨#[80]⟩,⟨#[81]⟩]:List ο),s.size<=10:=by decide
   exact this s (YI g)
  ·rw [vy.1 w];refine bi ⟨⟨by decide,?_⟩,by decide,?_,by decide,by decide,by decide,by decide⟩ (aY _)
   ·show (0:Int)<(fo x).length;omega
   ·intro s g;rw [vy.1 g];exact ⟨by decide,λ_=>by decide,λh=>(by cases h)⟩
theorem im (x:Rw):MG (aS x)/\Bd (aS x) 18 10:=by
 have H:cO x<=10:=by unfold cO;split<;>decide
 have g:=IU (x:=x) (rO x);have G:=(I0 x).famG (rO x) x;have h:=rP (x:=x) (x.lines.take (cO x)) g;have N:(x.lines.take (cO x)).length<=10:=by rw [zZ];omega
 have K:(x.rules.take 6).length<=6:=by rw [zZ];omega
 have r:=MG.lines (x:=x) (x.lines.take (cO x)) G g (by omega);have D:=rQ (x.rules.take 6) h;have C:=MG.rules (x.rules.take 6) r h;refine ⟨C,?_⟩;obtain ⟨c1,w,E,A,M,B,L,F,J⟩:=D;exact ⟨c1,w,E,A,by unfold aS;omega,B,by unfold aS;omega,F,by unfold aS;omega⟩
theorem lZ (x:Rw):OkG (aS x):=(im x).1.ok (im x).2 (by decide) (by decide)
abbrev RT (F:PH):VR:=λr F'=>r=nS mY/\F.le F'
open Go.ChangeShapes Go.WideShapes Go.ChangeAt Go.RowKit Go.Deep
set_option maxRecDepth 100000
section
variable {H:Type} {enc:TypeId×ξ->H} {P:Program} {W:World}
theorem y7 {α:Type} {cells:α->Ξ} {k:Nat} (g:∀o,(cells o).length=k):∀{os:List α} {i j:Nat},j<k->(os.flatMap cells)[i*k+j]? =(os[i]?).bind λo=>(cells o)[j]?
 |[],i,j,_=>by simp
 |o::os,0,j,hj=>by rw [Vx,V9,ye,zR (by rw [g];exact hj)];rfl
 |o::os,i+1,j,hj=>by rw [Vx,UR (by rw [g,WL];omega),g,show (i+1)*k+j - k=i*k+j by rw [WL];omega,y7 g hj];rfl
theorem jf {α:Type} {cells:α->Ξ} {k:Nat} (g:∀o,(cells o).length=k):∀os:List α,(os.flatMap cells).length=os.length*k
 |[]=>by simp
 |o::os=>by rw [Vx,tT,g,jf g os,wc,WL,XK]
theorem ux {α:Type} [Inhabited α] {t e k:Nat} {cells:α->Ξ} {Q:α->Prop} (J:P.underlying t=V (.slice e)) (hk:P.cellsOf e=k) (w:0<k) (g:∀o,(cells o).length=k)
  (elem:∀{fuel:Nat} {cs:Ξ} {x:DataW H×List MemPlace},DataW.trod enc P W 0 (λ_=>mY) mY fuel e cs=V x->(x.1.weights P e).all (·<=reachBytes)=mY->∃o,cs=cells o/\Q o)
  {fuel:Nat} {c:ξ} {x:DataW H×List MemPlace} (h:DataW.trod enc P W 0 (λ_=>mY) mY fuel t [c]=V x) (C:(x.1.weights P t).all (·<=reachBytes)=mY):
  ∃(sl:Sl) (os:List α),c=nE sl/\RdS (hF W) sl k (os.flatMap cells)/\(∀o∈os,Q o)/\os.length=sl.len/\sl.len*P.bytesOf e<=reachBytes:=by
 rcases open_slice J h with ⟨r,rfl⟩|⟨a,len,cap,m,n,D,Pl,r,_,hl,hm,A,rfl,hx⟩
 ·cases r;exact ⟨pi,[],rfl,RdS.nil _ _,by simp,rfl,by simp [pi]⟩
 ·cases r;simp only [if_true] at A;subst A;rw [hk] at hx;have K:∀i,i<len->((D i).weights P e).all (·<=reachBytes)=mY:=λi hi=>by
   rw [Vn] at C ⊢;intro y G;refine C y ?_;simp only [DataW.weights,J];refine Vm _ (Zg _ ?_);have L:∀(l:List (DataW H)) (d:DataW H),d∈l->∀y∈d.weights P e,y∈DataW.weightsAll P e l:=by
    intro l;induction l with
    |nil=>intro d hd;cases hd
    |cons a l ih=>
     intro d hd y G;simp only [DataW.weightsAll,vd];rcases tD.1 hd with rfl|hd
     ·exact .inl G
     ·exact .inr (ih d hd y G)
   exact L _ (D i) (w9.2 ⟨i,WU.2 hi,rfl⟩) y G
  have hb:m*P.bytesOf e<=reachBytes:=by simp only [DataW.weights,J,Xv,VO,δ,ub,V4] at C;rw [show len+(m - len)=m by omega] at C;exact C.1
  have N:∀i,i<len->∃o:α,W.cells? 0 (a.add (i*k)) k=V (cells o)/\Q o:=λi hi=>by obtain ⟨cs,R,F⟩:=hx i (by omega);obtain ⟨o,rfl,h3⟩:=elem F (K i hi);exact ⟨o,R,h3⟩
  obtain ⟨O,M⟩:=choose_lt N;refine ⟨⟨V a,len,m⟩,(List.range len).map O,rfl,⟨?_,hl,λhp=> ?_⟩,?_,by simp,Wz (Xj _ hl) hb⟩
  ·rw [jf g];simp
  ·simp only at hp;have h0:=(World.cells?_some (M 0 (by omega)).1).2.2 0 w;obtain ⟨v0,X⟩:∃v,(cells (O 0))[0]? =V v:=⟨_,N5 (by rw [g];exact w)⟩;have hs:=World.cell?_spot (v:=v0) (by rw [h0];exact X);obtain ⟨b,o,a0⟩:=a;simp [nR] at hs;subst hs;refine ⟨b,o,rfl,λi hi=> ?_⟩;rw [jf g,ub,V4] at hi;have E:i / k<len:=Nat.div_lt_of_lt_mul (by rw [Nat.mul_comm];exact hi);have hr:i % k<k:=V7 _ w;have R:=(World.cells?_some (M (i / k) E).1).2.2 (i % k) hr;have F:=y7 g (os:=(List.range len).map O) (i:=i / k) (j:=i % k) hr;have B:i / k*k+i % k=i:=by rw [Nat.mul_comm];exact Nat.div_add_mod i k
   rw [B] at F;rw [<- N5,F];simp only [yc,Xz E,Vz,Option.bind_some];rw [<- R,aI,aI,V8,B];rfl
  ·intro o N;obtain ⟨i,hi,rfl⟩:=w9.1 N;exact (M i (WU.1 hi)).2
end
section
variable {H:Type} {enc:TypeId×ξ->H} {W:World}
instance:Inhabited (Ln×Sl):=⟨⟨⟨0,[],0,0⟩,pi⟩⟩
instance:Inhabited Ru:=⟨⟨0,0,0,0,0⟩⟩
theorem BJ:prog.cellsOf 22=1:=by kernel_rfl
theorem DS:prog.cellsOf 191=4:=by kernel_rfl
theorem DT:prog.cellsOf 194=5:=by kernel_rfl
theorem DU:prog.cellsOf 26=5:=by kernel_rfl
theorem MO:prog.cellsOf 23=1:=by kernel_rfl
theorem MP:prog.cellsOf 24=1:=by kernel_rfl
theorem eJ {z:Int} (h:(Lit.int .u8 z).wf=mY):∃n:Nat,z=n/\n<256:=by obtain ⟨g,r⟩:=SM h;exact ⟨z.toNat,by omega,by omega⟩
theorem io {fuel:Nat} {c:ξ} {x:DataW H×List MemPlace} (h:DataW.trod enc prog W 0 (λ_=>mY) mY fuel 22 [c]=V x) (D:(x.1.weights prog 22).all (·<=reachBytes)=mY):
  ∃(sl:Sl) (ns:Δ),c=nE sl/\RdS (hF W) sl 1 (ns.map vB)/\(∀n∈ns,n<256)/\ns.length<=9000000000000000:=by
 obtain ⟨sl,w,rfl,B,A,E,_⟩:=Kt underlying22 underlying5 og h D;have e:(w.map nT).map vB=w.map (Value.int .u8):=by rw [X3];refine List.map_congr_left λz g=> ?_;obtain ⟨n,rfl,_⟩:=eJ (A z g);simp only [Function.comp,N4]
 refine ⟨sl,w.map nT,rfl,by rw [e];exact B,λn C=> ?_,by rw [ub];exact Nu B E⟩;obtain ⟨z,g,rfl⟩:=w9.1 C;obtain ⟨n,rfl,r⟩:=eJ (A z g);rw [N4];exact r
theorem Gl {fuel:Nat} {cs:Ξ} {x:DataW H×List MemPlace} (h:DataW.trod enc prog W 0 (λ_=>mY) mY fuel 191 cs=V x) (B:(x.1.weights prog 191).all (·<=reachBytes)=mY):
  ∃o:Ln×Sl,cs=[vB o.1.left,o.2.v,vB o.1.cond,vB o.1.mark]/\(RdS (hF W) o.2 1 (o.1.right.map vB)/\o.1.left<256/\o.1.cond<256/\o.1.mark<256/\∀y∈o.1.right,y<256):=by
 obtain ⟨Q,n,_,rfl,D,w,g⟩:=DataW.trod_struct underlying191 h;rw [DS] at D
 match cs,D with
 |[c0,c1,c2,c3],_=>
 match Q,w with
 |[x0,x1,x2,x3],_=>
 have f0:=g 0 _ rfl;have A:=g 1 _ rfl;have f2:=g 2 _ rfl;have C:=g 3 _ rfl;simp only [XZ,V3] at f0 A f2 C;obtain ⟨z0,e0,_,L⟩:=DataW.trod_int underlying5 f0;obtain ⟨z2,M,_,w2⟩:=DataW.trod_int underlying5 f2;obtain ⟨z3,X,_,E⟩:=DataW.trod_int underlying5 C;cases e0;cases M;cases X;have r:(x1.1.weights prog 22).all (·<=reachBytes)=mY:=by rw [Vn] at B ⊢;intro y R;refine B y ?_;simp only [DataW.weights,underlying191];exact DataW.weights_mem_each (j:=1) rfl rfl y R
 obtain ⟨J,G,rfl,N,hn,_⟩:=io A r;obtain ⟨K,rfl,P⟩:=eJ L;obtain ⟨n2,rfl,F⟩:=eJ w2;obtain ⟨n3,rfl,O⟩:=eJ E;exact ⟨⟨⟨K,G,n2,n3⟩,J⟩,rfl,N,P,F,O,hn⟩
theorem Gm {fuel:Nat} {cs:Ξ} {x:DataW H×List MemPlace} (h:DataW.trod enc prog W 0 (λ_=>mY) mY fuel 194 cs=V x) (X:(x.1.weights prog 194).all (·<=reachBytes)=mY):
  ∃o:Ru,cs=[vB o.kind,vB o.a,vB o.b,vB o.c,vB o.cond]/\(o.kind<256/\o.a<256/\o.b<256/\o.c<256/\o.cond<256):=by
 obtain ⟨R,n,_,rfl,C,r,g⟩:=DataW.trod_struct underlying194 h;rw [DT] at C
 match cs,C with
 |[c0,c1,c2,c3,c4],_=>
 match R,r with
 |[x0,x1,x2,x3,x4],_=>
 have f0:=g 0 _ rfl;have w:=g 1 _ rfl;have f2:=g 2 _ rfl;have B:=g 3 _ rfl;have A:=g 4 _ rfl;simp only [XZ,V3] at f0 w f2 B A;obtain ⟨z0,e0,_,L⟩:=DataW.trod_int underlying5 f0;obtain ⟨z1,G,_,P⟩:=DataW.trod_int underlying5 w;obtain ⟨z2,M,_,w2⟩:=DataW.trod_int underlying5 f2;obtain ⟨z3,e3,_,D⟩:=DataW.trod_int underlying5 B;obtain ⟨z4,e4,_,F⟩:=DataW.trod_int underlying5 A;cases e0;cases G;cases M;cases e3;cases e4;obtain ⟨J,rfl,Q⟩:=eJ L;obtain ⟨n1,rfl,K⟩:=eJ P;obtain ⟨n2,rfl,E⟩:=eJ w2;obtain ⟨n3,rfl,O⟩:=eJ D;obtain ⟨n4,rfl,N⟩:=eJ F;exact ⟨⟨J,n1,n2,n3,n4⟩,rfl,Q,K,E,O,N⟩
theorem wE {α g:Type} [Mem g] {F:PH} {cells:α->Ξ} {f:α->g}:∀{os:List α},(∀o∈os,Mem.rep F (f o) (cells o).toArray)->bS F (os.map f) (os.map λo=>(cells o).toArray)
 |[],_=> .nil
 |o::os,h=> .cons (h o (by simp)) (wE λx r=>h x (by simp [r]))
theorem Ja {α:Type} (cells:α->Ξ) (os:List α):tZ (os.map λo=>(cells o).toArray)=os.flatMap cells:=by unfold tZ;rw [List.flatMap_map]
theorem Jb {fuel:Nat} {cs:Γ} {x:DataW H×List MemPlace} (h:DataW.trod enc prog W 0 (λ_=>mY) mY fuel 26 cs.toList=V x) (g:(x.1.weights prog 26).all (·<=reachBytes)=mY):
  ∃r:Rw,Gi (hF W) cs r:=by
 obtain ⟨xs,n,_,rfl,X,M,w⟩:=DataW.trod_struct underlying26 h;rw [DU] at X;obtain ⟨cs⟩:=cs
 match cs,X with
 |[c0,c1,c2,c3,c4],_=>
 match xs,M with
 |[x0,x1,x2,x3,x4],_=>
 have f0:=w 0 _ rfl;have P:=w 1 _ rfl;have f2:=w 2 _ rfl;have R:=w 3 _ rfl;have Q:=w 4 _ rfl;simp only [XZ,V3] at f0 P f2 R Q;obtain ⟨z0,e0,_,w0⟩:=DataW.trod_int underlying5 f0;obtain ⟨z1,e1,_,w1⟩:=DataW.trod_int underlying5 P;cases e0;cases e1;have D:(x2.1.weights prog 22).all (·<=reachBytes)=mY:=by rw [Vn] at g ⊢;intro y A;refine g y ?_;simp only [DataW.weights,underlying26];exact DataW.weights_mem_each (j:=2) rfl rfl y A
 have K:(x3.1.weights prog 23).all (·<=reachBytes)=mY:=by rw [Vn] at g ⊢;intro y A;refine g y ?_;simp only [DataW.weights,underlying26];exact DataW.weights_mem_each (j:=3) rfl rfl y A
 have L:(x4.1.weights prog 24).all (·<=reachBytes)=mY:=by rw [Vn] at g ⊢;intro y A;refine g y ?_;simp only [DataW.weights,underlying26];exact DataW.weights_mem_each (j:=4) rfl rfl y A
 obtain ⟨sf,ns,rfl,C,a0,_⟩:=io f2 D;obtain ⟨sl,ls,rfl,J,B,_,_⟩:=ux (k:=4) (cells:=λo:Ln×Sl=>[vB o.1.left,o.2.v,vB o.1.cond,vB o.1.mark]) underlying23 DS (by decide) (λ_=>rfl) Gl R K;obtain ⟨sr,O,rfl,E,G,_,_⟩:=ux (k:=5) (cells:=λo:Ru=>[vB o.kind,vB o.a,vB o.b,vB o.c,vB o.cond]) underlying24 DT (by decide) (λ_=>rfl) Gm Q L;obtain ⟨n0,rfl,k0⟩:=eJ w0;obtain ⟨n1,rfl,k1⟩:=eJ w1;refine ⟨⟨n0,n1,ns,ls.map Prod.fst,O⟩,⟨sf,sl,sr,rfl,C,⟨_,wE (f:=Prod.fst) (cells:=λo:Ln×Sl=>[vB o.1.left,o.2.v,vB o.1.cond,vB o.1.mark]) λo N=> ?_,by rw [Ja];exact J⟩,⟨_,?_,by rw [Ja (λo:Ru=>[vB o.kind,vB o.a,vB o.b,vB o.c,vB o.cond])];exact E⟩⟩,k0,k1⟩
 ·obtain ⟨h1,h2⟩:=B o N;exact ⟨o.2,rfl,h1,h2⟩
 ·have:=wE (F:=hF W) (f:=λo:Ru=>o) (cells:=λo:Ru=>[vB o.kind,vB o.a,vB o.b,vB o.c,vB o.cond]) (os:=O) λo N=>⟨rfl,G o N⟩;rw [List.map_id'] at this;exact this
end
structure Nod where
 pr:Int
 tk:Int
 fr:Int
 to:Int
deriving DecidableEq
inductive Dtr where
 |lf (tk fr to:Int)
 |nd (pr fr to:Int) (ks:List Dtr)
def Dtr.root:Dtr->Nod
 | .lf tk fr to=>⟨-1,tk,fr,to⟩
 | .nd pr fr to _=>⟨pr,-1,fr,to⟩
def Dtr.kids:Dtr->List Dtr
 | .lf _ _ _=>[]
 | .nd _ _ _ ks=>ks
mutual
def vD:Dtr->List Nod
 | .lf tk fr to=>[⟨-1,tk,fr,to⟩]
 | .nd pr fr to ks=>⟨pr,-1,fr,to⟩::VC ks
def VC:List Dtr->List Nod
 |[]=>[]
 |n::l=>vD n++VC l
end
theorem kX (n:Dtr):vD n=n.root::VC n.kids:=by
 cases n with
 |lf=>unfold vD;rfl
 |nd=>unfold vD;rfl
def szN (n:Dtr):Nat:=(vD n).length
def xv (l:List Dtr):Nat:=(VC l).length
theorem cL (n:Dtr):szN n=1+xv n.kids:=by unfold szN xv;rw [kX,wc,XK]
theorem gb (n:Dtr):0<szN n:=by rw [cL];omega
theorem dH:xv []=0:=by unfold xv VC;rfl
theorem dc (n:Dtr) (l:List Dtr):xv (n::l)=szN n+xv l:=by unfold xv szN;rw [VC,tT]
theorem kY:∀(l m:List Dtr),xv (l++m)=xv l+xv m
 |[],m=>by rw [zE,dH,ye]
 |n::l,m=>by rw [zK,dc,dc,kY l m,V8]
theorem Dtr.ind {P:Dtr->Prop} (w:∀A fr to,P (.lf A fr to)) (g:∀pr fr to ks,(∀k∈ks,P k)->P (.nd pr fr to ks)):∀n,P n:=λn=>
 Dtr.rec (motive_1:=P) (motive_2:=λks=>∀k∈ks,P k) w (λpr fr to ks ih=>g pr fr to ks ih) (λ_ h=>(by cases h)) (λn l g w k r=>by
  rcases tD.1 r with rfl|r
  ·exact g
  ·exact w k r) n
mutual
def xy:Dtr->List Dtr
 | .lf tk fr to=>[.lf tk fr to]
 | .nd pr fr to ks=> .nd pr fr to ks::ya ks
def ya:List Dtr->List Dtr
 |[]=>[]
 |n::l=>xy n++ya l
end
theorem fi (n:Dtr):xy n=n::ya n.kids:=by
 cases n with
 |lf=>unfold xy;rfl
 |nd=>unfold xy;rfl
theorem rW:∀(l:List Dtr),(∀k∈l,(xy k).map Dtr.root=vD k)->(ya l).map Dtr.root=VC l
 |[],_=>by unfold ya VC;rfl
 |n::l,h=>by rw [ya,VC,yT,h n (by simp),rW l λk g=>h k (by simp [g])]
theorem rX:∀n:Dtr,(xy n).map Dtr.root=vD n:=Dtr.ind (λ_ _ _=>by unfold xy vD;rfl) λh r to g ih=>by rw [xy,vD,xw,rW g ih];rfl
theorem dI (n:Dtr):(xy n).length=szN n:=by unfold szN;rw [<- rX n,ub]
theorem wF (l:List Dtr):(ya l).length=xv l:=by have:=congrArg List.length (rW l λk _=>rX k);rw [ub] at this;exact this
abbrev tU:=ByteArray×Int
structure Spc where
 opens:Bool
 decl:Nat
 kind:Int
 uses:Nat
 allow:Nat
section
variable (sp:Int->Spc) (tx:Int->Int->ο)
def WD (ks:List Dtr) (k:Nat):ο:=match ks[k - 1]? with
 |some n=>tx n.root.fr n.root.to
 |none=> .empty
def t5 (pr:Int) (ks:List Dtr):List tU:=if 0<(sp pr).decl then [(WD tx ks (sp pr).decl,(sp pr).kind)] else []
mutual
def yP:Dtr->List tU
 | .lf _ _ _=>[]
 | .nd pr _ _ ks=>(if (sp pr).opens=mY then [] else Uf ks)++t5 sp tx pr ks
def Uf:List Dtr->List tU
 |[]=>[]
 |n::l=>yP n++Uf l
end
mutual
def yp (seen:List tU):Dtr->List (List tU)
 | .lf _ _ _=>[seen]
 | .nd _ _ _ ks=>seen::US seen ks
def US (seen:List tU):List Dtr->List (List tU)
 |[]=>[]
 |n::l=>yp seen n++US (seen++yP sp tx n) l
end
theorem nQ (seen:List tU) (n:Dtr):yp sp tx seen n=seen::US sp tx seen n.kids:=by
 cases n with
 |lf=>unfold yp;rfl
 |nd=>unfold yp;rfl
theorem rY:∀l m:List Dtr,Uf sp tx (l++m)=Uf sp tx l++Uf sp tx m
 |[],m=>by rw [zE,Uf,zE]
 |n::l,m=>by rw [zK,Uf,Uf,rY l m,xK]
theorem y8:∀(l:List Dtr),(∀k∈l,∀seen,(yp sp tx seen k).length=szN k)->∀seen,(US sp tx seen l).length=xv l
 |[],_,seen=>by unfold US;rw [dH];rfl
 |n::l,h,seen=>by rw [US,tT,h n (by simp),y8 l (λk g=>h k (by simp [g])),dc]
theorem gc:∀(n:Dtr) (seen:List tU),(yp sp tx seen n).length=szN n:=Dtr.ind (λ_ _ _ seen=>by unfold yp szN vD;rfl) λh r to g ih seen=>by rw [nQ,wc,cL];show (US sp tx seen g).length+1=1+xv g;rw [y8 sp tx _ ih,XK]
end
def bK (n:Dtr) (i:Nat):Option Dtr:=(xy n)[i]?
theorem fF (n:Dtr):bK n 0=V n:=by unfold bK;rw [fi];rfl
theorem rZ:∀l m:List Dtr,ya (l++m)=ya l++ya m
 |[],m=>by rw [zE,ya,zE]
 |n::l,m=>by rw [zK,ya,ya,rZ l m,xK]
def bV (i:Nat) (ks:List Dtr) (k:Nat):Nat:=i+1+xv (ks.take k)
theorem gM {i:Nat} {ks:List Dtr} {k:Nat} {n:Dtr} (h:ks[k]? =V n):bV i ks (k+1)=bV i ks k+szN n:=by unfold bV;rw [Wv,h];show i+1+xv (ks.take k++[n])=_;rw [kY,dc,dH];omega
theorem DW:∀(l:List Dtr),(∀k∈l,∀(i:Nat) (m:Dtr),bK k i=V m->∃a b,xy k=a++xy m++b/\a.length=i)->∀(i:Nat) (m:Dtr),(ya l)[i]? =V m->∃a b,ya l=a++xy m++b/\a.length=i
 |[],_,i,m,h=>by rw [ya] at h;simp at h
 |n::l,hk,i,m,h=>by
  rw [ya] at h ⊢;by_cases hi:i<(xy n).length
  ·rw [zR hi] at h;obtain ⟨a,b,e,g⟩:=hk n (by simp) i m h;exact ⟨a,b++ya l,by rw [e];simp only [xK],g⟩
  ·rw [UR (by omega)] at h;obtain ⟨a,b,e,g⟩:=DW l (λk h=>hk k (by simp [h])) _ m h;exact ⟨xy n++a,b,by rw [e];simp only [xK],by rw [tT,g];omega⟩
theorem BK:∀(n:Dtr) (i:Nat) (m:Dtr),bK n i=V m->∃a b,xy n=a++xy m++b/\a.length=i:=Dtr.ind (λB r to i m h=>by
  unfold bK at h;rw [xy] at h;cases i with
  |zero=>cases h;exact ⟨[],[],by simp,rfl⟩
  |succ i=>simp at h) λw r to g ih i m h=>by
 cases i with
 |zero=>rw [fF] at h;cases h;exact ⟨[],[],by simp,rfl⟩
 |succ i=>unfold bK at h;rw [fi,V3] at h;obtain ⟨a,b,e,A⟩:=DW g ih i m h;refine ⟨.nd w r to g::a,b,?_,by rw [wc,A]⟩;rw [fi];show _::ya g=_;rw [e];simp
theorem gN {n m:Dtr} {i:Nat} (h:bK n i=V m):(vD n)[i]? =V m.root:=by rw [<- rX n,yc];unfold bK at h;rw [h];rfl
theorem ip {n m:Dtr} {i k:Nat} {c:Dtr} (h:bK n i=V m) (w:m.kids[k]? =V c):bK n (bV i m.kids k)=V c:=by
 obtain ⟨a,b,e,B⟩:=BK n i m h;have g:=(N6.1 w).1;have A:m.kids=m.kids.take k++c::m.kids.drop (k+1):=by have:=(WI k m.kids).symm;rw [Xi g] at this;rw [(N6.1 w).2] at this;exact this
 unfold bK bV;have r:ya m.kids=ya (m.kids.take k)++(xy c++ya (m.kids.drop (k+1))):=by have:=congrArg ya A;rw [rZ,ya] at this;exact this
 rw [e,fi m,r,fi c,xK,UR (by omega),B];rw [show i+1+xv (m.kids.take k) - i=xv (m.kids.take k)+1 by omega];rw [zK,V3,xK,UR (by rw [wF];omega),wF,XL];rfl
theorem Gp {l:List Dtr} {k:Nat} {c:Dtr} (h:l[k]? =V c):l=l.take k++c::l.drop (k+1):=by have g:=(N6.1 h).1;have:=(WI k l).symm;rw [Xi g,(N6.1 h).2] at this;exact this
section
variable (sp:Int->Spc) (tx:Int->Int->ο)
def bF (s:ο) (l:List tU):Int:=match l.reverse.find? λx=>decide (x.1=s) with
 |some x=>x.2
 |none=>0
def WF (allow:Nat) (kind:Int):Bool:=decide (allow / 2 ^ kind.toNat % 2=1)
def WA (seen:List tU):Dtr->Bool
 | .lf _ _ _=>mY
 | .nd pr _ _ ks=>if (sp pr).uses=0 then mY else WF (sp pr).allow (bF (WD tx ks (sp pr).uses) seen)
def VV (n:Dtr):Δ:=(List.range (szN n)).filter λi=>match (yp sp tx [] n)[i]?,bK n i with
 |some s,V m=> !WA sp tx s m
 |_,_=>mz
end
def ma:Int->Bool->List Nod->Int->Prop
 |at_,ex,[],to=>if ex=mY then at_=to else at_<=to
 |at_,ex,n::l,to=>¬((ex=mY/\n.fr≠at_)\/n.fr<at_)/\ma n.to (decide (0<=n.pr)) l to
theorem Gq (s:ο):bF s []=0:=rfl
theorem r6 (s:ο) (l:List tU) (x:tU):bF s (l++[x])=if x.1=s then x.2 else bF s l:=by
 unfold bF;rw [List.reverse_append,List.reverse_singleton,List.singleton_append,List.find?_cons];by_cases h:x.1=s
 ·rw [ε h,Χ h]
 ·rw [η h,Υ h]
def Yd (s:ο) (l:List tU):Prop:=∀x∈l,x.1≠s
theorem y9 {s:ο} {l:List tU} (h:Yd s l):bF s l=0:=by
 unfold bF;have:l.reverse.find? (λx=>decide (x.1=s))=I:=List.find?_eq_none.2 λx g=>by have:=h x (List.mem_reverse.1 g);simpa using this
 rw [this]
theorem uy {s:ο} {l m:List tU} (h:Yd s m):bF s (l++m)=bF s l:=by
 unfold bF;have:m.reverse.find? (λx=>decide (x.1=s))=I:=List.find?_eq_none.2 λx g=>by have:=h x (List.mem_reverse.1 g);simpa using this
 rw [List.reverse_append,List.find?_append,this];rfl
theorem Gs {s:ο} {l m:List tU} {x:tU} (h:Yd s m) (g:x.1=s):bF s (l++x::m)=x.2:=by rw [show l++x::m=(l++[x])++m by simp,uy h,r6,Χ g]
section
variable {sp:Int->Spc} {tx:Int->Int->ο}
def UT (K:Int->Prop) (l:List tU):Prop:=∀x∈l,K x.2
theorem BL {K:Int->Prop}:∀(l:List Dtr),(∀k∈l,UT K (yP sp tx k))->UT K (Uf sp tx l)
 |[],_=>by unfold Uf;exact λx g=>(by cases g)
 |n::l,hk=>by
  rw [Uf];intro x g;rcases vd.1 g with g|g
  ·exact hk n (by simp) x g
  ·exact BL l (λk h=>hk k (by simp [h])) x g
theorem OJ {K:Int->Prop} (h:∀p,0<(sp p).decl->K (sp p).kind):∀n:Dtr,UT K (yP sp tx n):=Dtr.ind (λ_ _ _ x g=>by unfold yP at g;cases g) λr A to w ih x g=>by
 unfold yP at g;rcases vd.1 g with g|g
 ·split at g
  ·cases g
  ·exact BL w ih x g
 ·unfold t5 at g;by_cases hd:0<(sp r).decl
  ·rw [Χ hd,vy] at g;rw [g];exact h r hd
  ·rw [Υ hd] at g;cases g
theorem Jc {K:Int->Prop} (h:∀n:Dtr,UT K (yP sp tx n)):∀(l:List Dtr),(∀k∈l,∀s,UT K s->∀y∈yp sp tx s k,UT K y)->∀s,UT K s->∀y∈US sp tx s l,UT K y
 |[],_,s,_,y,g=>by unfold US at g;cases g
 |n::l,hk,s,hs,y,g=>by
  rw [US,vd] at g;rcases g with g|g
  ·exact hk n (by simp) s hs y g
  ·refine Jc h l (λk w=>hk k (by simp [w])) _ (λx r=> ?_) y g;rcases vd.1 r with r|r
   ·exact hs x r
   ·exact h n x r
theorem qdA {K:Int->Prop} (h:∀n:Dtr,UT K (yP sp tx n)):∀(n:Dtr) (s:List tU),UT K s->∀y∈yp sp tx s n,UT K y:=Dtr.ind (λ_ _ _ s r y g=>by
  unfold yp at g;rw [vy] at g;rw [g]
  exact r) λA B to w ih s r y g=>by
 rw [nQ] at g;rcases tD.1 g with g|g
 ·rw [g];exact r
 ·exact Jc h w ih s r y g
theorem r7 {s:ο} {x:tU} {l:List tU} (h:UT (·≠0) l):bF s (x::l)=if bF s l≠0 then bF s l else if x.1=s then x.2 else 0:=by
 by_cases g:Yd s l
 ·rw [y9 g,Υ (by simp)];have:=uy (s:=s) (l:=[x]) g;rw [List.singleton_append] at this;rw [this,<- zE [x],r6,Gq]
 ·have C:∃y,l.reverse.find? (λx=>decide (x.1=s))=V y:=by
   cases e:l.reverse.find? (λx=>decide (x.1=s)) with
   |some y=>exact ⟨y,rfl⟩
   |none=>refine absurd (λx E A=> ?_) g;have:=List.find?_eq_none.1 e x (List.mem_reverse.2 E);simp [A] at this
  obtain ⟨y,w⟩:=C;have D:bF s l=y.2:=by unfold bF;rw [w]
  have B:bF s (x::l)=y.2:=by unfold bF;rw [List.reverse_cons,List.find?_append,w];rfl
  have r:y.2≠0:=h y (List.mem_reverse.1 (List.mem_of_find?_eq_some w));rw [D,B,Χ r]
end
def VI (i:Nat) (n:Dtr):Δ:=(xy n).mapIdx λj m=>i+j+szN m
def Xd (i:Nat) (l:List Dtr):Δ:=(ya l).mapIdx λj m=>i+j+szN m
theorem wG (i:Nat) (n:Dtr):VI i n=(i+szN n)::Xd (i+1) n.kids:=by unfold VI Xd;rw [fi,List.mapIdx_cons];congr 1;congr 1;funext j m;omega
theorem Jd (i:Nat) (n:Dtr) (l:List Dtr):Xd i (n::l)=VI i n++Xd (i+szN n) l:=by unfold VI Xd;rw [ya,List.mapIdx_append,dI];congr 1;congr 1;funext j m;omega
theorem jE (i:Nat) (n:Dtr):(VI i n).length=szN n:=by unfold VI;rw [List.length_mapIdx,dI]
theorem MQ (i:Nat) (l:List Dtr):(Xd i l).length=xv l:=by unfold Xd;rw [List.length_mapIdx,wF]
theorem Je {n m:Dtr} {i j:Nat} (h:bK n j=V m):(VI i n)[j]? =V (i+j+szN m):=by unfold VI;unfold bK at h;rw [List.getElem?_mapIdx,h];rfl
theorem gO {n:Dtr} {j:Nat} (h:j<szN n):∃m,bK n j=V m:=by unfold bK;exact ⟨_,N5 (by rw [dI];exact h)⟩
theorem d5 {n m:Dtr} {j:Nat} (h:bK n j=V m):j<szN n:=by unfold bK at h;have:=(N6.1 h).1;rwa [dI] at this
theorem sub_le {n m:Dtr} {j:Nat} (h:bK n j=V m):j+szN m<=szN n:=by obtain ⟨a,b,e,g⟩:=BK n j m h;have:=congrArg List.length e;rw [tT,tT,dI,dI] at this;omega
theorem dn {n m:Dtr} {j:Nat} (h:bK n j=V m):m∈xy n:=vQ h
def VD (g:Gr) (p:Int):Option Pr:=if 0<=p then g.qa0[p.toNat]? else I
theorem bA {g:Gr} {p:Int} {x:Pr} (h:VD g p=V x):0<=p/\p.toNat<g.qa0.length/\g.qa0[p.toNat]? =V x:=by
 unfold VD at h;split at h
 ·exact ⟨by assumption,(N6.1 h).1,h⟩
 ·cases h
def XD (g:Gr):Dtr->Sy
 | .lf tk _ _=>⟨mY,tk⟩
 | .nd pr _ _ _=>⟨mz,((VD g pr).map Pr.left).getD 0⟩
def Gt (g:Gr):Dtr->Prop
 | .lf tk fr to=>0<=tk/\tk<g.qa2.length/\0<=fr/\fr<to
 | .nd pr fr to ks=>0<=fr/\fr<=to/\∃p,VD g pr=V p/\p.right=ks.map (XD g)
def dU (g:Gr) (n:Dtr):Prop:=∀m∈xy n,Gt g m
theorem dU.here {g:Gr} {n:Dtr} (h:dU g n):Gt g n:=h n (by rw [fi];exact XA)
theorem DX {n m:Dtr}:∀{ks:List Dtr},n∈ks->m∈xy n->m∈ya ks
 |k::l,h,hm=>by
  rw [ya,vd];rcases tD.1 h with rfl|h
  ·exact .inl hm
  ·exact .inr (DX h hm)
theorem dU.kid {g:Gr} {n k:Dtr} (h:dU g n) (r:k∈n.kids):dU g k:=λm w=>h m (by rw [fi];exact Vm _ (DX r w))
theorem dU.sub {g:Gr} {n m:Dtr} {i:Nat} (h:dU g n) (w:bK n i=V m):dU g m:=λk r=>by obtain ⟨a,b,e,_⟩:=BK n i m w;exact h k (by rw [e];simp [r])
def WX (g:Gr) (L:List Nod) (T:Δ) (N:Nat):Nat->List (Nat×List Dtr)->Prop
 |j,[]=>j=N
 |j,(x,ks)::fs=>T[x]? =V (j+xv ks)/\T.drop j=Xd j ks++T.drop (j+xv ks)/\L.drop j=VC ks++L.drop (j+xv ks)/\(∀k∈ks,dU g k)/\WX g L T N (j+xv ks) fs
section
variable {g:Gr} {L:List Nod} {T:Δ} {N:Nat}
theorem uz {α:Type} {l a:List α} {j n:Nat} {b:List α} (h:l.drop j=a++b) (r:a.length=n):l.drop (j+n)=b:=by rw [<- XJ,h,<- r,List.drop_left]
theorem Jf {j x:Nat} {c:Dtr} {ks:List Dtr} {fs:List (Nat×List Dtr)} (h:WX g L T N j ((x,c::ks)::fs)):L[j]? =V c.root/\dU g c/\WX g L T N (j+1) ((j,c.kids)::(x,ks)::fs):=by
 obtain ⟨E,w,A,G,D⟩:=h;rw [dc] at E w A D;rw [Jd,xK] at w;rw [VC,xK] at A;have e:=cL c;have C:=uz w (jE j c);have H:=uz (n:=szN c) A rfl;have F:=G c (by simp);have M:T[j]? =V (j+szN c):=by have:=congrArg (λl=>l[0]?) w;rw [wG] at this;simpa using this
 have K:L[j]? =V c.root:=by have:=congrArg (λl=>l[0]?) A;rw [kX] at this;simpa using this
 rw [wG,zK] at w;rw [kX,zK] at A;have f2:T.drop (j+1)=Xd (j+1) c.kids++(Xd (j+szN c) ks++T.drop (j+(szN c+xv ks))):=by rw [<- XJ,w];rfl
 have J:L.drop (j+1)=VC c.kids++(VC ks++L.drop (j+(szN c+xv ks))):=by rw [<- XJ,A];rfl
 have r:j+1+xv c.kids=j+szN c:=by omega
 refine ⟨K,F,?_,?_,?_,λk B=>F.kid B,?_,?_,?_,λk B=>G k (by simp [B]),?_⟩
 ·rw [M,r]
 ·rw [r,f2,C]
 ·rw [r,J,H]
 ·rw [E,r,V8]
 ·rw [r,C,V8]
 ·rw [r,H,V8]
 ·rw [r,V8];exact D
theorem MR {j x:Nat} {fs:List (Nat×List Dtr)} (h:WX g L T N j ((x,[])::fs)):T[x]? =V j/\WX g L T N j fs:=by obtain ⟨w,_,_,_,r⟩:=h;rw [dH] at w r;exact ⟨w,r⟩
theorem BM {j:Nat}:∀{fs:List (Nat×List Dtr)},WX g L T N j fs->j<=N
 |[],h=>Nat.le_of_eq h
 | (x,ks)::fs,h=>by have:=BM h.2.2.2.2;omega
theorem Jg {n:Dtr} (h:dU g n):WX g (vD n) (VI 0 n) (szN n) 1 [(0,n.kids)]:=by
 have e:=cL n;refine ⟨?_,?_,?_,λk r=>h.kid r,?_⟩
 ·rw [wG,XZ];congr 1;omega
 ·rw [wG,<- e,Xy,Vf];rw [show ((0+szN n)::Xd (0+1) n.kids:Δ).drop (szN n)=[] from Ye (by rw [wc,MQ];omega),yn]
 ·rw [kX,<- e,Xy,Vf];rw [show (n.root::VC n.kids:List Nod).drop (szN n)=[] from Ye (by rw [wc];show xv n.kids+1<=_;omega),yn]
 ·show 1+xv n.kids=szN n;omega
end
section
variable (sp:Int->Spc) (tx:Int->Int->ο) {β:Type} (E:Nat->List tU->List β) (L:Nat->Nat->List tU->List β)
mutual
def UZ (i:Nat) (seen:List tU):Dtr->List β
 | .lf _ _ _=>E i seen++L i seen.length seen
 | .nd pr fr to ks=>E i seen++UY (i+1) seen ks++L i seen.length (seen++yP sp tx (.nd pr fr to ks))
def UY (i:Nat) (seen:List tU):List Dtr->List β
 |[]=>[]
 |n::l=>UZ i seen n++UY (i+szN n) (seen++yP sp tx n) l
end
end
section
variable {sp:Int->Spc} {tx:Int->Int->ο} {β:Type} {E:Nat->List tU->List β}
theorem uA:∀(l:List Dtr),(∀k∈l,∀i seen,UZ sp tx E (λ_ _ _=>[]) i seen k=((yp sp tx seen k).mapIdx λj s=>E (i+j) s).flatten)->∀i seen,UY sp tx E (λ_ _ _=>[]) i seen l=((US sp tx seen l).mapIdx λj s=>E (i+j) s).flatten
 |[],_,i,seen=>by unfold UY US;rfl
 |n::l,h,i,seen=>by rw [UY,US,h n (by simp),uA l λk g=>h k (by simp [g]),List.mapIdx_append,List.flatten_append,gc];congr 2;congr 1;funext j s;rw [show i+szN n+j=i+(j+szN n) by omega]
theorem za:∀(n:Dtr) (i:Nat) (seen:List tU),UZ sp tx E (λ_ _ _=>[]) i seen n=((yp sp tx seen n).mapIdx λj s=>E (i+j) s).flatten:=Dtr.ind (λ_ _ _ i seen=>by
  unfold UZ yp
  simp) λh r to g ih i seen=>by
 rw [UZ,nQ,List.mapIdx_cons,List.flatten_cons,yn];show E i seen++UY sp tx E (λ_ _ _=>[]) (i+1) seen g=E (i+0) seen++((US sp tx seen g).mapIdx _).flatten;rw [uA g ih];congr 2;congr 1;funext j s;rw [show i+1+j=i+(j+1) by omega]
theorem Sg:∀(l:List (List tU)) (i:Nat) {x:List tU},l[i]? =V x->(l.mapIdx λj s=>if 0+j=i then s else []).flatten=x:=by
 have key:∀(l:List (List tU)) (a i:Nat),i<a->(l.mapIdx λj s=>if a+j=i then s else []).flatten=[]:=λl a i h=>by rw [List.flatten_eq_nil_iff];intro y g;obtain ⟨j,r,rfl⟩:=List.mem_mapIdx.1 g;rw [Υ (by omega)]
 have go:∀(l:List (List tU)) (a i:Nat) (x:List tU),l[i]? =V x->(l.mapIdx λj s=>if a+j=a+i then s else []).flatten=x:=by
  intro l;induction l with
  |nil=>intro a i x h;simp at h
  |cons y l ih=>
   intro a i x h;rw [List.mapIdx_cons,List.flatten_cons];cases i with
   |zero=>rw [XZ] at h;cases h;rw [Χ rfl];have:=key l (a+1) a (by omega);rw [show (λ(j:Nat) (s:List tU)=>if a+(j+1)=a+0 then s else [])=λj s=>if a+1+j=a then s else [] from by funext j s;rw [show a+(j+1)=a+1+j by omega];rfl,this,yn]
   |succ i=>rw [V3] at h;rw [Υ (by omega),zE];have:=ih (a+1) i x h;rw [<- this];congr 2;funext j s;rw [show a+(j+1)=a+1+j by omega,show a+(i+1)=a+1+i by omega]
 intro l i x h;have:=go l 0 i x h;simp only [ye] at this ⊢;exact this
def WE (i:Nat):Nat->Nat->List tU->List tU:=λk b s=>if k=i then s.drop b else []
theorem mb:∀(l:List Dtr),(∀k∈l,∀i a seen,i<a\/a+szN k<=i->UZ sp tx (λ_ _=>[]) (WE i) a seen k=[])->∀i a seen,i<a\/a+xv l<=i->UY sp tx (λ_ _=>[]) (WE i) a seen l=[]
 |[],_,i,a,seen,_=>by unfold UY;rfl
 |n::l,h,i,a,seen,hi=>by rw [dc] at hi;rw [UY,h n (by simp) i a seen (by omega),mb l (λk g=>h k (by simp [g])) i _ _ (by omega)];rfl
theorem wH:∀(n:Dtr) (i a:Nat) (seen:List tU),i<a\/a+szN n<=i->UZ sp tx (λ_ _=>[]) (WE i) a seen n=[]:=Dtr.ind (λw r to i a seen h=>by
  rw [cL] at h;have:(Dtr.lf w r to).kids=[]:=rfl;unfold UZ WE;rw [Υ (by omega)]
  rfl) λA r to g ih i a seen h=>by
 rw [cL] at h;have h:i<a\/a+(1+xv g)<=i:=h;rw [UZ,mb g ih i _ _ (by omega)];unfold WE;rw [Υ (by omega)];rfl
theorem uB:∀(l:List Dtr),(∀k∈l,∀(j a:Nat) (m:Dtr) seen,bK k j=V m->UZ sp tx (λ_ _=>[]) (WE (a+j)) a seen k=yP sp tx m)->∀(j a:Nat) (m:Dtr) seen,(ya l)[j]? =V m->UY sp tx (λ_ _=>[]) (WE (a+j)) a seen l=yP sp tx m
 |[],_,j,a,m,seen,h=>by rw [ya] at h;simp at h
 |n::l,hk,j,a,m,seen,h=>by
  rw [ya] at h;rw [UY];by_cases g:j<(xy n).length
  ·rw [zR g] at h;have:=d5 h;rw [hk n (by simp) j a m seen h,mb l (λk _=>wH k) _ _ _ (by omega),yn]
  ·rw [UR (by omega)] at h;rw [dI] at h g;have:=uB l (λk h=>hk k (by simp [h])) (j - szN n) (a+szN n) m (seen++yP sp tx n) h;rw [show a+szN n+(j - szN n)=a+j by omega] at this;rw [this,wH n _ _ _ (by omega),zE]
theorem Jh:∀(n:Dtr) (j a:Nat) (m:Dtr) (seen:List tU),bK n j=V m->UZ sp tx (λ_ _=>[]) (WE (a+j)) a seen n=yP sp tx m:=Dtr.ind (λA r to j a m seen h=>by
  unfold bK at h;rw [xy] at h;cases j with
  |zero=>cases h;unfold UZ WE yP;rw [Χ (show a=a+0 from rfl),XW];rfl
  |succ j=>simp at h) λw r to g ih j a m seen h=>by
 cases j with
 |zero=>rw [fF] at h;cases h;rw [UZ,mb g (λk _=>wH k) _ _ _ (by omega)];unfold WE;rw [Χ (show a=a+0 from rfl),List.drop_left];rfl
 |succ j=>unfold bK at h;rw [fi,V3] at h;have:=uB g ih j (a+1) m seen h;rw [show a+1+j=a+(j+1) by omega] at this;rw [UZ,this];unfold WE;rw [Υ (by omega),yn];rfl
def Yu (sp:Int->Spc) (tx:Int->Int->ο) (n:Dtr):Nat->List tU->Δ:=λi s=>match bK n i with
 |some m=>if WA sp tx s m then [] else [i]
 |none=>[]
theorem oG {p:Nat->Bool}:∀l:Δ,(l.map λi=>if p i=mY then [i] else []).flatten=l.filter p
 |[]=>rfl
 |x::l=>by
  rw [xw,List.flatten_cons,oG l];by_cases h:p x=mY
  ·rw [Χ h,Zb h];rfl
  ·rw [Υ h,List.filter_cons_of_neg h];rfl
theorem qdB (n:Dtr):UZ sp tx (Yu sp tx n) (λ_ _ _=>[]) 0 [] n=VV sp tx n:=by
 rw [za];unfold VV;rw [<- oG];congr 1;refine WJ λi=> ?_;rw [List.getElem?_mapIdx,yc];by_cases hi:i<szN n
 ·obtain ⟨m,h⟩:=gO hi;rw [Xz hi];have g:i<(yp sp tx [] n).length:=by rw [gc];exact hi
  rw [N5 g,Vz,Vz];congr 1;unfold Yu;rw [ye,h];dsimp only;rw [N5 g];dsimp only;by_cases e:WA sp tx (yp sp tx [] n)[i] m=mY
  ·simp [e]
  ·simp [e]
 ·rw [VM (by rw [gc];omega),VM (by rw [V4];omega)];rfl
end
abbrev Nod.arr (x:Nod):Γ:= #[U x.pr,U x.tk,U x.fr,U x.to]
instance:Mem Nod where
 n:=4
 rep _ x c:=c=x.arr
 len h:=by rw [h];rfl
 le _ h:=h
 st h:=by rw [h];simp [ak]
abbrev jZ (x:tU):Γ:= #[pe x.1,U x.2]
instance:Mem tU where
 n:=2
 rep _ x c:=c=jZ x
 len h:=by rw [h];rfl
 le _ h:=h
 st h:=by rw [h];simp [ak]
abbrev bB (l:List tU):Ξ:=l.flatMap λx=>(jZ x).toList
theorem RL.nams {F:PH} {s:Sl} {l:List tU}:RL F s l↔RdS F s 2 (bB l):=RL.flat (f:=jZ) (λ_ _ _=>Iff.rfl)
theorem kv (l m:List tU):bB (l++m)=bB l++bB m:=by simp [bB]
theorem iq:∀l:List tU,(bB l).length=l.length*2
 |[]=>rfl
 |x::l=>by have:=iq l;simp only [bB,Vx,tT,wc] at this ⊢;rw [this];show 2+_=_;omega
theorem qiq (l:List tU) (k:Nat):(bB l).take (k*2)=bB (l.take k):=by
 induction l generalizing k with
 |nil=>simp [bB]
 |cons x l ih=>
  cases k with
  |zero=>simp [bB]
  |succ k=>have:=ih k;simp only [bB,Vx,Yh] at this ⊢;rw [WL,<- this];rfl
theorem qir (l:List tU) (k:Nat):(bB l).drop (k*2)=bB (l.drop k):=by
 induction l generalizing k with
 |nil=>simp [bB]
 |cons x l ih=>
  cases k with
  |zero=>simp [bB]
  |succ k=>have:=ih k;simp only [bB,Vx,Xy] at this ⊢;rw [WL,<- this];rfl
theorem Gu (l:List tU):∀v∈bB l,ak v:=by intro v h;obtain ⟨x,_,g⟩:=XV.1 h;simp at g;rcases g with rfl|rfl<;>simp [ak]
structure Vio where
 i:Nat
abbrev Vio.arr (x:Vio):Γ:= #[U 6,U (x.i:Int),U 0]
instance:Mem Vio where
 n:=3
 rep _ x c:=c=x.arr
 len h:=by rw [h];rfl
 le _ h:=h
 st h:=by rw [h];simp [ak]
def gP (s:Sl) (e n:Nat) (vs:Ξ):Ψ:=λH=>bP H e n s vs\/(RdS H s n vs/\s.len=s.cap)
theorem gP.rd {s:Sl} {e n:Nat} {vs:Ξ} {H:PH} (h:gP s e n vs H):RdS H s n vs:=h.elim bP.rd λh=>h.1
theorem gP.nil {e n:Nat} {H:PH}:gP pi e n [] H:=.inl (.inl ⟨rfl,rfl⟩)
theorem gP.cut {s:Sl} {e n k:Nat} {vs:Ξ} {H:PH} (h:gP s e n vs H) (g:k<=s.len):gP (s.cut n 0 k k) e n (vs.take (k*n)) H:=by refine .inr ⟨?_,rfl⟩;have:=h.rd.cut (l:=0) (r:=k) (m:=k) (yv _) g (qX _);rw [V9,Vf,VP] at this;exact this
namespace St
section
variable {G F:PH} {As:List (Ψ)} {t e n bytes:Nat} {z:ξ}
theorem sownRd (h:St G F As) {i:Nat} {s:Sl} {vs:Ξ} (hi:As[i]? =V (gP s e n vs)):RdS F s n vs:=by obtain ⟨H,r,_,g⟩:=h.get hi;exact r.rd.le g
theorem spushAt (T:SlT t e n bytes z) {s:Sl} {g:Ξ} {c:Γ} {ty:TypeId} (h:St G F As) (i:Nat) (hi:As[i]? =V (gP s e n g)) (O:c.size=n) (L:∀v∈c.toList,ak v) (a0:s.len<=400000000000) {K:Sl->Ψ}
  (k:∀A G' P,G.le G'->St G' P (As.set i (gP A e n (g++c.toList)))->A.len=s.len+1->K A P):
  ∀b,F b=I->xG (F.set b (Y c e)) λF=>aG prog (Builtin.append_ #[t,t] ty #[s.v,nE (ua (V (ou b 0 I)) 1 1)]) F λv F=>∃A:Sl,v=nE A/\K A F:=by
 refine h.newG λX G1 Q l1 q1 _ h=> ?_;have r:RdS Q (ua (V (ou X 0 I)) 1 1) n c.toList:=RdS.new (h.le _ _ q1) (zc (by rw [zN,O,Ww];exact qX _)) (by rw [zN,O,Ww]) (qX _);have N:i<As.length:=(N6.1 hi).1;obtain ⟨H,D,a2,a3,a4⟩:=h.set (A':=own s e n g) hi;rcases D with D|⟨D,a5⟩
 ·have ho:=a4 H Q D (λb E=> .inl E) a3 λb o E _=>E;refine ho.appAt T i (X0 N) r L (by show s.len+1<=_;omega) λA P h' hl=> ?_;rw [List.set_set] at h';have h2:=h'.imp (A':=gP A e n (g++c.toList)) i (X0 N) λ_ _ hH=> .inl hH;rw [List.set_set] at h2;exact k A G1 P l1 h2 hl
 ·have B:=D.len;have C:=r.len;refine gn T.ht T.hsz T.hz T.hzs (D.le a3) r L (Ea T.hb (by show s.len+1<=_;omega)) (by show s.len+1<=_;omega) (λh0=> ?_) (λ_ h1=> ?_) λ_ cap b w E=> ?_
  ·have:=Nat.mul_pos (show 0<(ua (V (ou X 0 I)) 1 1).len from Nat.one_pos) T.hn;omega
  ·have:s.len+1<=s.cap:=h1;omega
  ·have w:s.len+1<=cap:=w;have C:c.toList.length=1*n:=C;refine ⟨_,rfl,?_⟩;generalize J:g.toArray++c.toList.toArray++Builtin.zeroCells z.cells (cap - (s.len+(ua (V (ou X 0 I)) 1 1).len))=M;have R:M.size=cap*n:=by rw [<- J];simp [Builtin.zeroCells,T.hzs,B];rw [O,<- V8,show s.len*n+n=(s.len+1)*n by rw [WL],<- Wo];congr 1;omega
   have W:M.toList.take ((s.len+1)*n)=g++c.toList:=by rw [<- J];simp only [Yf,Zj];rw [Xh (by simp [B,O,Wo]),zc (by simp [B,O,Wo])]
   obtain ⟨H,c1,c2,c3,c4⟩:=h.set (A':=gP (ua (V (ou b 0 I)) (s.len+1) cap) e n (g++c.toList)) hi;refine k _ G1 _ l1 (c4 (PH.set (λ_=>I) b (Y M e)) (Q.set b (Y M e)) (.inl (.inr ⟨b,M,rfl,aq _ _ _,R,w,?_,W⟩)) (λx r=> ?_) (λx p r=> ?_) λx p r hn=> ?_) rfl
   ·rw [tT,B,C,Wo]
   ·by_cases e:x=b
    ·rw [e];exact .inr E
    ·rw [aw _ _ e] at r;exact absurd rfl r
   ·by_cases e:x=b
    ·rw [e,aq] at r ⊢;exact r
    ·rw [aw _ _ e] at r;cases r
   ·have e:x≠b:=λe=>by subst e;rw [E] at r;cases r
    rw [aw _ _ e];exact r
end
end St
variable {R:VR} {F:PH}
set_option maxHeartbeats 4000000
def Vo (e:Γ) (b:Int) (f:Sl) (R:VR) (F:PH):Prop:=Nb F (Y e 39) λh F=>Lr F 9 (Z h 0) λg=>Ci 45 #[nL g,ru .u64 b] F λa F=>Bc (a≠0) (R (U a) F) (Lr F 9 (Z h 0) λc=>Cs 46 #[nL c,ru .u64 b,nE f] F λd F=>Bb ((d.qa5.isNone)) (R (U 90) F) (R (U 0) F))
theorem qgw {a:Γ} {b:Int} {c:Sl} (h:Vo a b c R F):ν 22 #[nL a,ru .u64 b,nE c] F R:=Rx.Λ .N h
def Vp (g:Γ) (h:Sl) (c:Int) (R:VR) (F:PH):Prop:=Nb F (Y g 39) λj F=>Lr F 9 (Z j 0) λi=>Ci 47 #[nL i] F λd F=>Bc (d≠0) (R (pk #[nE pi,nS mz]) F) (Lr F 9 (Z j 0) λe=>Cs 48 #[nL e,nE h] F λa F=>Bc (c<0) (R (pk #[nE pi,nS mz]) F) (Bc ((a.len:Int)<=c) (R (pk #[nE pi,nS mz]) F) (ν 50 #[nE a,(U c)] F λv F=>∃b:ξ,v=b/\Cs 49 #[b] F λf F=>R (pk #[nE f,nS mY]) F)))
theorem qgx {a:Γ} {b:Sl} {c:Int} (h:Vp a b c R F):ν 25 #[nL a,nE b,(U c)] F R:=Rx.Λ .N h
def Vq (d:Γ) (e:Int) (R:VR) (F:PH):Prop:=Nb F (Y d 39) λg F=>Lr F 9 (Z g 0) λf=>Ci 47 #[nL f] F λa F=>Bc (a≠0) (R (U a) F) (Lr F 9 (Z g 0) λb=>ud 75 #[nL b,ru .u64 e] F λc F=>Bb ((!c)) (R (U 1) F) (R (U 0) F))
theorem qgy {a:Γ} {b:Int} (h:Vq a b R F):ν 45 #[nL a,ru .u64 b] F R:=Rx.Λ .N h
def Ji (a:Sl) (R:VR) (F:PH):Prop:=R (nE a) F
def wI (c:Ω) (_:Int) (_:Sl) (_:Nat) (_:Sl) (a:Int) (_:VR) (F:PH):Prop:=c (i64.wrap (a+1)) F
def BN (u:Ω) (d:Int) (c:Sl) (s:Nat) (b:Sl) (R:VR) (a:Int) (F:PH):Prop:=Bc (a<(c.len:Int)) (Ix c a λg=>Lr F 4 (nR g (nT a*4)) λh=>Nb F (Y (#[U 0,U 0,U 0,U 0]) 47) λt F=>aA F (Z t 0) 4 h λF=>Li F (Z t 0) λi=>Bc (i<0) (Ls F (Z s 3) λj=>Li F (Z t 1) λe=>Ix j e λk=>Lr F 2 (nR (nR k (nT e*7)) 5) λl=>ud 76 #[nL l,ru .u64 d] F λm F=>Bb ((!m)) (R (nE pi) F) (wI u d c s b a R F)) (Ls F (Z s 5) λn=>Li F (Z t 0) λf=>Ix n f λo=>Lr F 2 (nR (nR o (nT f*13)) 3) λp=>ud 76 #[nL p,ru .u64 d] F λq F=>Bb ((!q)) (R (nE pi) F) (ud 77 #[nE c,nE b,(U a)] F λr F=>Bb ((!r)) (R (nE pi) F) (wI u d c s b a R F)))) (Ji b R F)
def Vr (n:Γ) (o:Int) (a:Sl) (R:VR) (F:PH):Prop:=Nb F (Y n 39) λm F=>Lr F 9 (Z m 0) λd=>Cs 48 #[nL d,nE a] F λb F=>Bb ((b.qa5.isNone)) (R (nE pi) F) (Ix a 0 λe=>Li F (nR e (nT 0*4)) λf=>Bc (f<0) (R (nE pi) F) (Ls F (Z m 5) λg=>Ix a 0 λh=>Li F (nR h (nT 0*4)) λc=>Ix g c λi=>Li F (nR (nR i (nT c*13)) 1) λj=>Li F (Z m 6) λk=>Bc (j≠k) (R (nE pi) F) (Lp 0 F λN l F=>BN N o a m b R l F)))
theorem qgz {a:Γ} {b:Int} {c:Sl} (h:Vr a b c R F):ν 46 #[nL a,ru .u64 b,nE c] F R:=Rx.Λ (.qa8 (.qa8 (.qa8 (.J mz [] (.qa8 (.L [(38,.int .i64)] (.qa8 (.qa8 (.J mz [] .N .N))))) .N)))) h
def Vs (c:Γ) (d:Sl) (R:VR) (F:PH):Prop:=Nb F (Y c 39) λf F=>Nb F (Y #[nE d] 43) λg F=>Lr F 9 (Z f 0) λa=>Ls F (Z g 0) λe=>a.size=9/\Cs 82 #[nL (rV (rV (wr (#[.slice I 0 0,.slice I 0 0,U 0,.slice I 0 0,.slice I 0 0,.slice I 0 0,U 0,.slice I 0 0,.slice I 0 0,U 0,.nilFunc]:Γ) 0 a.toList) 9 (U (e.len:Int))) 10 (.func (.func 81) #[] #[(Pp g),(Pp f)]))] F λb F=>R (nE b) F
theorem qgA {a:Γ} {b:Sl} (h:Vs a b R F):ν 48 #[nL a,nE b] F R:=Rx.Λ .N h
def Vt (a:Sl) (b:Int) (R:VR) (F:PH):Prop:=Nb F (Y #[nE a] 76) λc F=>Nb F (Y #[(U b)] 3) λd F=>R (.func (.func 84) #[] #[(Pp d),(Pp c)]) F
theorem qgB {a:Sl} {b:Int} (h:Vt a b R F):ν 50 #[nE a,(U b)] F R:=Rx.Λ .N h
def Vu (h:Int) (z i:Θ) (R:VR) (F:PH):Prop:=∃f,z=V f/\Ls F f λA=>Ix A h λj=>Lr F 4 (nR j (nT h*4)) λk=>Nb F (Y (#[U 0,U 0,U 0,U 0]) 47) λc F=>aA F (Z c 0) 4 k λF=>Li F (Z c 0) λl=>Bc (l=(-1:Int)) (Li F (Z c 1) λd=>Li F (Z c 1) λm=>Bc (0<=m) (Li F (Z c 1) λn=>∃g,i=V g/\Ls F (nR g 3) λo=>Bc (n<(o.len:Int)) (Li F (Z c 2) λp=>Bc (0<=p) (Li F (Z c 2) λq=>Li F (Z c 3) λr=>R (pk #[(U (-1:Int)),(U d),nS (decide (q<r))]) F) (R (pk #[(U (-1:Int)),(U d),nS mz]) F)) (R (pk #[(U (-1:Int)),(U d),nS mz]) F)) (R (pk #[(U (-1:Int)),(U d),nS mz]) F)) (Li F (Z c 0) λa=>Li F (Z c 1) λb=>Li F (Z c 0) λs=>Bc (0<=s) (Li F (Z c 0) λt=>∃e,i=V e/\Ls F (nR e 5) λu=>Bc (t<(u.len:Int)) (Li F (Z c 1) λv=>Bc (v=(-1:Int)) (Li F (Z c 2) λw=>Bc (0<=w) (Li F (Z c 2) λx=>Li F (Z c 3) λy=>R (pk #[(U a),(U b),nS (decide (x<=y))]) F) (R (pk #[(U a),(U b),nS mz]) F)) (R (pk #[(U a),(U b),nS mz]) F)) (R (pk #[(U a),(U b),nS mz]) F)) (R (pk #[(U a),(U b),nS mz]) F))
theorem qgC {a:Int} {b:Θ} {c:Θ} (h:Vu a b c R F):ν 81 #[(U a),.pointer b,.pointer c] F R:=Rx.Λ .N h
def Jj (b a:Sl) (R:VR) (F:PH):Prop:=Bc ((0:Int)<(a.len:Int)) (R (nE pi) F) (R (nE b) F)
def wJ (e:Sl->Ω) (_:Nat) (_:Sl) (_ b:Int) (a:Sl) (_:VR) (F:PH):Prop:=e a (i64.wrap (b+1)) F
def BO (j:Sl->Ω) (l:Sl->Ψ) (k:Nat) (c:Sl) (d f:Int) (R:VR) (a:Sl) (F:PH):Prop:=Bc ((0:Int)<(a.len:Int)) (Ix a (i64.wrap ((a.len:Int) - 1)) λi=>∃e,F.cell (nR (nR i (nT (i64.wrap ((a.len:Int) - 1))*2)) 1)=V (nE e)/\Bc ((e.len:Int)=0) (Ix a (i64.wrap ((a.len:Int) - 1)) λg=>∃b,F.cell (nR g (nT (i64.wrap ((a.len:Int) - 1))*2))=V (U b)/\Ix c b λh=>qW F (nR h (nT b*1)) (U (i64.wrap (d+1))) λF=>0<=(i64.wrap ((a.len:Int) - 1))/\0<=(nT (i64.wrap ((a.len:Int) - 1)))/\(nT (i64.wrap ((a.len:Int) - 1)))<=a.cap/\l (Sl.cut a 2 0 (nT (i64.wrap ((a.len:Int) - 1))) a.cap) F) (wJ j k c f d a R F)) (wJ j k c f d a R F)
def wK (k:Sl->Ω) (l:Nat) (e c:Sl) (d f:Int) (b:Sl) (R:VR) (F:PH):Prop:=(#[(U d),nE b]:Γ).size=2/\Nb F (Y (#[(U d),nE b]:Γ) 223) λi F=>Ap 219 #[nE c,nE (Sb i 1)] F λg F=>(∃(j:Nat->Sl->Ψ) (h:Nat),j h g F/\∀h a F,j h a F-> BO k (Xg j h) l e d f R a F)
def wL (j:Sl->Ω) (i:Nat) (c a:Sl) (d b e:Int) (R:VR) (F:PH):Prop:=Bc (0<=b) (Ls F (Z i 5) λf=>Ix f b λg=>Ls F (nR (nR g (nT b*13)) 2) λh=>wK j i c a d e h R F) (wK j i c a d e pi R F)
def se (s:Sl->Ω) (r:Nat) (e a:Sl) (f c d g:Int) (R:VR) (F:PH):Prop:=Lr F 9 (Z r 0) λj=>Ca 118 #[nL j,(U c),(U d)] F λk F=>Nb F (Y (#[nS mz,U 0]) 130) λt F=>aA F (Z t 0) 2 k λF=>Bc ((0:Int)<=(i64.wrap ((a.len:Int) - 1))) (Lr F 2 (Z t 0) λl=>Ix a (i64.wrap ((a.len:Int) - 1)) λm=>∃h,F.cell (nR (nR m (nT (i64.wrap ((a.len:Int) - 1))*2)) 1)=V (nE h)/\Ix h 0 λn=>Lr F 2 (nR n (nT 0*2)) λo=>∃i,(∀F,pn prog (Op.equal 130 (nL l) (nL o)) F i)/\Bb ((!i)) (R (nE pi) F) (Ix a (i64.wrap ((a.len:Int) - 1)) λp=>∃b,F.cell (nR (nR p (nT (i64.wrap ((a.len:Int) - 1))*2)) 1)=V (nE b)/\1<=b.len/\b.len<=b.cap/\Ix a (i64.wrap ((a.len:Int) - 1)) λq=>qW F (nR (nR q (nT (i64.wrap ((a.len:Int) - 1))*2)) 1) (nE (Sl.cut b 2 1 b.len b.cap)) λF=>wL s r e a f c g R F)) (wL s r e a f c g R F)
def BP (m:Sl->Ω) (k:Nat) (e:Sl) (f:Int) (R:VR) (a:Sl) (c:Int) (F:PH):Prop:=Bc (c<f) (∃h:ξ,F.cell (Z k 10)=V h/\Fn h λl i j=>aj prog l (i++([(U c)]).toArray++j) F λv F=>∃g,∃b,∃d,v=(pk #[(U g),(U b),(nS d)])/\Bb ((!d)) (R (nE pi) F) (Bc (0<c) (Bc ((a.len:Int)=0) (R (nE pi) F) (se m k e a c g b f R F)) (se m k e a c g b f R F))) (Jj e a R F)
def Vv (j:Γ) (R:VR) (F:PH):Prop:=Nb F (Y j 175) λe F=>Li F (Z e 9) λf=>Bc (f=0) (R (nE pi) F) (Li F (Z e 9) λg=>Bc (2000000<g) (R (nE pi) F) (Li F (Z e 9) λb=>aG prog (Instr.makeSlice 76 (U b) (U b)) F λv F=>∃c,v=(nE c)/\Li F (Z e 9) λh=>(∃(k:Nat->Sl->Ω) (i:Nat),k i pi 0 F/\∀i a d F,k i a d F-> BP (VL k i) e c h R a d F)))
theorem qgD {a:Γ} (h:Vv a R F):ν 82 #[nL a] F R:=Rx.Λ (.qa8 (.qa8 (.qa8 (.qa8 (.J mz [(4,.sl)] (.qa8 (.L [(4,.sl),(25,.int .i64)] (.qa8 (.qa8 (.J mz [(4,.sl)] (.qa8 (.qa8 (.J mz [] .N (.qa8 (.J mz [] .N (.qa8 (.J mz [(11,.sl)] .N (.qa8 (.L [(4,.sl)] .N))))))))) .N))))) .N))))) h
def OK (g:Γ) (a b:Int) (R:VR) (F:PH):Prop:=Nb F (Y g 39) λh F=>Nb F (Y (#[nS mz,U 0]) 130) λf F=>Bc (a<0) (aA F (Z f 0) 2 (#[nS mY,(U b)]:Γ) λF=>Rr 2 (Z f 0) R F) (Ls F (Z h 5) λc=>Ix c a λd=>Li F (nR (nR d (nT a*13)) 1) λe=>aA F (Z f 0) 2 (#[nS mz,(U e)]:Γ) λF=>Rr 2 (Z f 0) R F)
theorem qdC {c:Γ} {a:Int} {b:Int} (h:OK c a b R F):ν 118 #[nL c,(U a),(U b)] F R:=Rx.Λ .N h
end Go.Proofs.YteilolbbgieadaaGreatDoor
namespace Go.Proofs.YteilolbbgieadaaGreatDoor
open Go.IntKind (i64 u8 u64)
open Sl renaming v->nE,nil->pi,mk->ua
open Go Go.Proofs.Tryz Tr
theorem me {k:Nat}:∀{t:Tr},dT k t->∀{c d:Cf},(∀i,i<k->c i=d i)->t.ev c=t.ev d
 |qa6 _,_,_,_,_=>rfl
 |qa7 v l h,⟨h1,h2,h3⟩,c,d,hc=>by simp only [Tr.ev];rw [hc v h1,me h2 hc,me h3 hc]
def BQ (c:Cf):Nat->Nat
 |0=>0
 |k+1=>BQ c k+if c k=mY then 2 ^ k else 0
theorem wM (c:Cf):∀k,BQ c k<2 ^ k
 |0=>Nat.one_pos
 |k+1=>by have:=wM c k;rw [Nat.pow_succ,BQ];split<;>omega
theorem sg (c:Cf):∀{k i:Nat},i<k->(BQ c k).testBit i=c i
 |0,_,h=>by omega
 |k+1,i,h=>by
  have r:=wM c k;rw [BQ];by_cases e:i=k
  ·subst e;by_cases g:c i=mY
   ·rw [Χ g,XK,Nat.testBit_two_pow_add_eq,Nat.testBit_lt_two_pow r,g];rfl
   ·rw [Υ g,Nat.add_zero,Nat.testBit_lt_two_pow r];simpa using (XU.2 g).symm
  ·have hi:i<k:=by omega
   by_cases g:c k=mY
   ·rw [Χ g,XK,Nat.testBit_two_pow_add_gt hi];exact sg c hi
   ·rw [Υ g,Nat.add_zero];exact sg c hi
theorem uC {α:Type} {p q:α->Bool}:∀{l:List α},(∀x∈l,p x=mY->q x=mY)->(l.filter p).length<=(l.filter q).length/\∀x∈l,q x=mY->p x=mz->(l.filter p).length<(l.filter q).length
 |[],_=>⟨qX _,λ_ h=>by cases h⟩
 |y::l,h=>by
  obtain ⟨G,D⟩:=uC (l:=l) λx r=>h x (Vm _ r);have A:=h y (by simp);have E:((y::l).filter p).length=(l.filter p).length+if p y=mY then 1 else 0:=by rw [List.filter_cons];split<;>simp
  have C:((y::l).filter q).length=(l.filter q).length+if q y=mY then 1 else 0:=by rw [List.filter_cons];split<;>simp
  rw [E,C];refine ⟨?_,λx r w B=> ?_⟩
  ·by_cases g:p y=mY
   ·rw [Χ g,Χ (A g)];omega
   ·rw [Υ g];omega
  ·rcases tD.1 r with rfl|r
   ·rw [Χ w,Υ (by rw [B];exact YK)];omega
   ·have:=D x r w B;by_cases g:p y=mY
    ·rw [Χ g,Χ (A g)];omega
    ·rw [Υ g];omega
def wt (k:Nat) (t:Tr):Nat:=((List.range (2 ^ k)).filter λm=>t.ev λi=>m.testBit i).length
theorem OL (k:Nat) (t:Tr):wt k t<=2 ^ k:=by unfold wt;exact Wz (Zf _ _) (by rw [V4];exact qX _)
theorem qdD {k:Nat} {a b:Tr} (C:Sx k a) (B:Sx k b) (g:∀c,a.ev c=mY->b.ev c=mY):wt k a<=wt k b/\(a≠b->wt k a<wt k b):=by
 obtain ⟨E,D⟩:=uC (p:=λm:Nat=>a.ev λi=>m.testBit i) (q:=λm=>b.ev λi=>m.testBit i) (l:=List.range (2 ^ k)) λx _=>g _;refine ⟨E,λw=> ?_⟩;have A:¬∀c,a.ev c=b.ev c:=λh=>w (eq_of_ev C.1 B.1 h);have ⟨c,hc⟩:∃c,a.ev c≠b.ev c:=Classical.not_forall.1 A;have e:∀{t:Tr},Sx k t->t.ev (λi=>(BQ c k).testBit i)=t.ev c:=λG=>me G.2 λi hi=>sg c hi;have r:a.ev c=mz:=by
  cases h:a.ev c with
  |false=>rfl
  |true=>exact absurd (h.trans (g c h).symm) hc
 refine D (BQ c k) (WU.2 (wM c k)) ?_ ?_
 ·show b.ev _=mY;rw [e B];cases h:b.ev c with
  |true=>rfl
  |false=>exact absurd (r.trans h.symm) hc
 ·show a.ev _=mz;rw [e C,r]
section
variable {κ:Type} {k:Nat}
def Sxs (k:Nat) (S:κ->Tr):Prop:=∀n,Sx k (S n)
def Lt' (S S':κ->Tr):Prop:=∀n c,(S n).ev c=mY->(S' n).ev c=mY
theorem Lt'.refl (S:κ->Tr):Lt' S S:=λ_ _ h=>h
theorem Lt'.trans {S T g:κ->Tr} (h:Lt' S T) (w:Lt' T g):Lt' S g:=λn c r=>w n c (h n c r)
theorem Lt'.antisymm {S T:κ->Tr} (r:Sxs k S) (w:Sxs k T) (h:Lt' S T) (g:Lt' T S):S=T:=by
 funext n;refine eq_of_ev (r n).1 (w n).1 λc=> ?_;cases e:(S n).ev c with
 |true=>exact (h n c e).symm
 |false=>
  cases e':(T n).ev c with
  |false=>rfl
  |true=>rw [g n c e'] at e;cases e
def mu (k:Nat) (keys:List κ) (S:κ->Tr):Nat:=(keys.map λn=>2 ^ k - wt k (S n)).sum
theorem Jk {S T:κ->Tr} (A:Sxs k S) (w:Sxs k T) (h:Lt' S T):∀keys:List κ,mu k keys T<=mu k keys S/\∀n∈keys,S n≠T n->mu k keys T<mu k keys S
 |[]=>⟨qX _,λ_ h=>by cases h⟩
 |x::l=>by
  obtain ⟨E,B⟩:=Jk A w h l;obtain ⟨G,C⟩:=qdD (A x) (w x) (h x);have H:=OL k (S x);have D:=OL k (T x);have e:∀S:κ->Tr,mu k (x::l) S=(2 ^ k - wt k (S x))+mu k l S:=λS=>by unfold mu;rw [xw,List.sum_cons]
  rw [e,e];refine ⟨by omega,λn r g=> ?_⟩;rcases tD.1 r with rfl|r
  ·have:=C g;omega
  ·have:=B n r g;omega
variable [DecidableEq κ]
def j9 (S:κ->Tr) (n:κ) (t:Tr):κ->Tr:=λi=>if i=n then t else S i
theorem uD (S:κ->Tr) (n:κ):j9 S n (S n)=S:=by
 funext i;unfold j9;split
 ·rename_i e;rw [e]
 ·rfl
theorem Sxs.upd {S:κ->Tr} (h:Sxs k S) {n:κ} {t:Tr} (g:Sx k t):Sxs k (j9 S n t):=λi=>by
 unfold j9;split
 ·exact g
 ·exact h i
def dV (S:κ->Tr) (n:κ) (d:Tr):κ->Tr:=j9 S n (ap2 zS (S n) d)
theorem mh {S:κ->Tr} (h:Sxs k S) {n:κ} {d:Tr} (hd:Sx k d) (i:κ) (c:Cf):(dV S n d i).ev c=((S i).ev c || (decide (i=n) && d.ev c)):=by
 unfold dV j9;by_cases e:i=n
 ·rw [Χ e,ε e,e,(cE (h n).1 hd.1).2];rfl
 ·rw [Υ e,η e];simp
theorem pS {S:κ->Tr} (h:Sxs k S) {n:κ} {d:Tr} (hd:Sx k d):Sxs k (dV S n d):=h.upd ((h n).ap2 hd)
theorem wO {S:κ->Tr} (h:Sxs k S) {n:κ} {d:Tr} (hd:Sx k d):Lt' S (dV S n d):=λi c g=>by rw [mh h hd,g];rfl
end
inductive Der (l:List Pr) (P:Nat->Tr) (st:Bool) (c:Cf):Int->Prop
 |mk (i:Nat) (x:Pr):l[i]? =V x->(P i).ev c=mY->(∀s∈x.right,s.t=mY->st=mz)->(∀s∈x.right,s.t=mz->Der l P st c s.i)->Der l P st c x.left
section
variable {k:Nat} {l:List Pr} {P:Nat->Tr} {st:Bool}
def fj (S:Int->Tr):Tr->List Sy->Tr
 |d,[]=>d
 |d,s::r=>fj S (if s.t=mY then d else ap2 bW d (S s.i)) r
theorem cM {S:Int->Tr} (g:Sxs k S):∀(r:List Sy) {d:Tr},Sx k d->Sx k (fj S d r)/\∀c,(fj S d r).ev c=(d.ev c && r.all λs=>s.t || (S s.i).ev c)
 |[],d,hd=>⟨hd,λc=>by simp [fj]⟩
 |s::r,d,hd=>by
  unfold fj;by_cases h:s.t=mY
  ·rw [Χ h];obtain ⟨w,A⟩:=cM g r hd;exact ⟨w,λc=>by rw [A,Xv,h];simp⟩
  ·rw [Υ h];obtain ⟨w,A⟩:=cM g r (hd.ap2 (o:=bW) (g s.i));refine ⟨w,λc=> ?_⟩;rw [A,Xv,(cE hd.1 (g s.i).1).2,XU.2 h,Bool.false_or,Bool.and_assoc]
def gg (st:Bool) (x:Pr):Bool:=st && x.right.any (·.t)
def iV (st:Bool) (P:Nat->Tr):Nat->List Pr->(Int->Tr)->Int->Tr
 |_,[],S=>S
 |i,x::l,S=>iV st P (i+1) l (if gg st x=mY then S else dV S x.left (fj S (P i) x.right))
theorem gh {S:Int->Tr} (g:Sxs k S) {i:Nat} (r:Sx k (P i)) (x:Pr):
  Sxs k (if gg st x=mY then S else dV S x.left (fj S (P i) x.right))/\Lt' S (if gg st x=mY then S else dV S x.left (fj S (P i) x.right)):=by
 obtain ⟨h,_⟩:=cM g x.right r;split
 ·exact ⟨g,Lt'.refl S⟩
 ·exact ⟨pS g h,wO g h⟩
theorem kZ (g:∀i,Sx k (P i)):∀(l:List Pr) (i:Nat) {S:Int->Tr},Sxs k S->Sxs k (iV st P i l S)/\Lt' S (iV st P i l S)/\∀n,iV st P i l S n≠S n->∃x∈l,x.left=n
 |[],i,S,hS=>⟨hS,Lt'.refl S,λn h=>absurd rfl h⟩
 |x::l,i,S,hS=>by
  obtain ⟨G,B⟩:=gh (st:=st) hS (g i) x;unfold iV;obtain ⟨C,D,A⟩:=kZ g l (i+1) G;refine ⟨C,B.trans D,λn r=> ?_⟩;by_cases e:x.left=n
  ·exact ⟨x,by simp,e⟩
  ·have:(if gg st x=mY then S else dV S x.left (fj S (P i) x.right)) n=S n:=by
    split
    ·rfl
    ·unfold dV j9;rw [Υ (Ne.symm e)]
   obtain ⟨y,w,E⟩:=A n (by rw [this];exact r);exact ⟨y,Vm _ w,E⟩
theorem oH (r:∀i,Sx k (P i)):∀(l:List Pr) (i:Nat) {S:Int->Tr},Sxs k S->iV st P i l S=S->
  ∀(j:Nat) (x:Pr),l[j]? =V x->gg st x=mz->∀c,(fj S (P (i+j)) x.right).ev c=mY->(S x.left).ev c=mY
 |[],_,_,_,_,j,_,h,_=>by simp at h
 |y::l,i,S,hS,he,j,x,hj,hs=>by
  obtain ⟨B,C⟩:=gh (st:=st) hS (r i) y;unfold iV at he;obtain ⟨D,A,_⟩:=kZ (st:=st) r l (i+1) B;have w:(if gg st y=mY then S else dV S y.left (fj S (P i) y.right))=S:=by refine Lt'.antisymm B hS ?_ C;rw [he] at A;exact A
  rw [w] at he;cases j with
  |zero=>simp at hj;subst hj;rw [hs,Υ YK] at w;intro c g;have:=mh hS (n:=y.left) (cM hS y.right (r i)).1 y.left c;rw [w,ε rfl,Wy] at this;rw [this];rw [Nat.add_zero] at g;rw [g,Bool.or_true]
  |succ j=>intro c g;refine oH r l (i+1) hS he j x (by simpa using hj) hs c ?_;rw [show i+1+j=i+(j+1) by omega];exact g
def Zr (l:List Pr) (P:Nat->Tr) (st:Bool) (S:Int->Tr):Prop:=∀n c,(S n).ev c=mY->Der l P st c n
theorem ze (A:∀i,Sx k (P i)):∀(m:List Pr) (i:Nat) {S:Int->Tr},(∀j x,m[j]? =V x->l[i+j]? =V x)->Sxs k S->Zr l P st S->Zr l P st (iV st P i m S)
 |[],_,_,_,_,h=>h
 |x::m,i,S,hl,hS,h=>by
  obtain ⟨H,J⟩:=gh (st:=st) hS (A i) x;unfold iV;refine ze A m (i+1) (λj y E=>by rw [show i+1+j=i+(j+1) by omega];exact hl (j+1) y (by simpa using E)) H ?_;by_cases r:gg st x=mY
  ·rw [Χ r];exact h
  ·rw [Υ r];intro n c g;obtain ⟨D,f2⟩:=cM hS x.right (A i);rw [mh hS D] at g;rcases Bool.or_eq_true_iff.1 g with g|g
   ·exact h n c g
   ·obtain ⟨e,g⟩:=Xk.1 g;have e:=ζ e;rw [f2] at g;obtain ⟨G,C⟩:=Xk.1 g;rw [Vn] at C;rw [e];refine .mk i x (by have:=hl 0 x rfl;rwa [Nat.add_zero] at this) G (λs B w=> ?_) λs B w=> ?_
    ·cases hst:st with
     |false=>rfl
     |true=>refine absurd ?_ r;unfold gg;rw [hst,Wy,XI];exact ⟨s,B,w⟩
    ·have:=C s B;rw [w,Bool.false_or] at this;exact h _ _ this
theorem BR {S:Int->Tr} (C:Sxs k S) (r:∀i,Sx k (P i)) (A:∀(j:Nat) (x:Pr),l[j]? =V x->gg st x=mz->∀c,(fj S (P j) x.right).ev c=mY->(S x.left).ev c=mY) {c:Cf} {n:Int} (h:Der l P st c n):(S n).ev c=mY:=by
 induction h with
 |mk i x hi w B _ ih=>
  refine A i x hi ?_ c ?_
  ·unfold gg;cases hst:st with
   |false=>rfl
   |true=>rw [Wy,<- Yk,XI];rintro ⟨s,g,h⟩;have:=B s g h;rw [hst] at this;cases this
  ·rw [(cM C x.right (r i)).2,w,Wy,Vn];intro s g;cases h:s.t with
   |true=>rfl
   |false=>rw [Bool.false_or];exact ih s g h
structure Jl (k:Nat) (l:List Pr) (P:Nat->Tr) (st:Bool) (S:Int->Tr):Prop where
 sx:Sxs k S
 iff:∀n c,(S n).ev c=mY↔Der l P st c n
theorem Jm {S:Int->Tr} (r:∀i,Sx k (P i)) (g:Sxs k S) (h:Zr l P st S) (w:iV st P 0 l S=S):Jl k l P st S:=
 ⟨g,λn c=>⟨h n c,BR g r λj x A C c B=>oH r l 0 g w j x A C c (by rw [ye];exact B)⟩⟩
end
