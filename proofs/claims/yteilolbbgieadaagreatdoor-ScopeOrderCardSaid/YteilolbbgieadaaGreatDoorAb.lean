/-
  Derivations in one configuration, and the least sets that are closed under productions.
-/
import Derived.Test.YteilolbbgieadaaGreatDoorIc
set_option maxRecDepth 10000
open Option renaming some->V,none->I
open Go.Obj renaming cells->Y
open Bool renaming false->mD,true->nk
open Go.Value renaming agg->nQ,bool->nW,int->rV,string->ph,tuple->po
open Go.Addr renaming add->nV,mk->oB
open Int renaming toNat->nX,tmod->sj
open Array renaming setIfInBounds->tC
noncomputable section
namespace Go.Proofs.YteilolbbgieadaaGreatDoor
open Go.IntKind (i64 u8 u64)
open Sl renaming v->nI,nil->pm,mk->t7
open Go Go.Proofs.Tryz Tr
theorem St.imp {G F:PH} {As:List (Ψ)} (h:St G F As) (i:Nat) {A A':Ψ} (hi:As[i]? =V A) (f:∀H,H.le F->A H->A' H):St G F (As.set i A'):=by obtain ⟨H,w,C,r,B⟩:=h.set (A':=A') hi;exact B H F (f H r w) (λb g=> .inl g) r λb o g _=>g
def wh:List ο:=[⟨#[43]⟩,⟨#[42]⟩,⟨#[40]⟩,⟨#[41]⟩,⟨#[105,102]⟩,⟨#[101,108,115,101]⟩,⟨#[59]⟩,⟨#[94]⟩]
def lZ:Tk:=⟨⟨#[105,100]⟩,0,⟨#[]⟩,[⟨1,97,122,0,0⟩,⟨1,97,122,0,0⟩,⟨4,0,0,1,0⟩,⟨2,0,0,0,2⟩],⟨#[120]⟩,dy⟩
def YW (x:ο):Tk:=⟨x,0,x,[],⟨#[]⟩,dy⟩
def jE:Tk:=⟨⟨#[115,112,97,99,101]⟩,1,⟨#[]⟩,[⟨1,9,10,0,0⟩,⟨1,32,32,0,0⟩,⟨3,0,0,0,1⟩,⟨1,9,10,0,0⟩,⟨1,32,32,0,0⟩,⟨3,0,0,3,4⟩,⟨4,0,0,5,0⟩,⟨2,0,0,2,6⟩],⟨#[]⟩,dy⟩
def gN:Tk:=⟨⟨#[114,101,109,97,114,107]⟩,2,⟨#[]⟩,[⟨1,37,37,0,0⟩,⟨1,97,122,0,0⟩,⟨1,32,32,0,0⟩,⟨3,0,0,1,2⟩,⟨4,0,0,3,0⟩,⟨2,0,0,0,4⟩],⟨#[]⟩,dy⟩
def fi:List Tk:=lZ::wh.map YW++[jE,gN]
theorem pR {F:PH} {x:Tk} {p n:Sl} (h:RL F p x.pat) (g:RL F n x.cond.1):Mem.rep F x (x.arr p n):=⟨p,n,rfl,h,g⟩
theorem oG (F:PH):ν 86 #[] F λr D=>(∃s,r=nI s/\RL D s fi)/\F.le D:=by
 obtain ⟨_,_,T⟩:=V7;refine qf6 ?_;unfold Wg;refine (St.start F).run (gW _) λ_ G1 A Q l1 h=> ?_;obtain ⟨w,rfl,hw⟩:=Q;obtain ⟨n,rfl,hn⟩:=hw.out;refine ⟨_,rfl,?_⟩;refine h.new λb1 F2 h=> ?_;refine h.put0 (w':= #[n.v,U dy.2]) rfl rfl (by simp [ak,nI]) λF3 h=> ?_;refine ⟨_,rfl,h.whole0,rfl,rfl,?_⟩;refine h.new λL F4 h=> ?_;refine h.runv (dq 97 122 _) λG2 F5 l2 h=> ?_;refine ⟨_,rfl,?_⟩;refine h.runv (dq 97 122 _) λG3 F6 l3 h=> ?_;refine ⟨_,rfl,?_⟩;refine h.runv (bZ 4 1 0 _) λG4 F7 l4 h=> ?_;refine ⟨_,rfl,?_⟩;refine h.runv (bZ 2 0 2 _) λG5 F8 l5 h=> ?_;refine ⟨_,rfl,rfl,rfl,rfl,rfl,?_⟩;refine h.newG λM G6 F9 l6 a3 _ h=> ?_;have a5:G1.le G6:=aa l2 (aa l3 (aa l4 (aa l5 l6)));have h:=h.imp (A':=own (t7 (V (oB L 0 I)) 1 1) 166 7 (tZ [Tk.arr ⟨⟨#[105,100]⟩,0,⟨#[]⟩,[],⟨#[120]⟩,dy⟩ pm n])) 0 rfl λH _ hH=> .inr ⟨L,_,rfl,hH,rfl,ru _,rfl,rfl⟩;refine h.el1 0 rfl (by simp) (c:=Tk.arr ⟨⟨#[105,100]⟩,0,⟨#[]⟩,[],⟨#[120]⟩,dy⟩ pm n) (k:=0) rfl (by decide) (by decide) λa9 h=> ?_;refine h.newG λW J a2 l7 a4 _ h=> ?_;have lt:=aa a5 l7;have r0:bS J [lZ] [lZ.arr (t7 (V (oB M 0 I)) 4 4) n]:=.cons (pR ⟨[_,_,_,_],.cons rfl (.cons rfl (.cons rfl (.cons rfl .nil))),RdS.new (l7 _ _ a3) rfl rfl (ru _)⟩ (hn.le lt)) .nil;replace h:St J a2 [own (t7 (V (oB L 0 I)) 1 1) 166 7 (tZ [lZ.arr (t7 (V (oB M 0 I)) 4 4) n]),pt b1 (Y #[n.v,U dy.2] 33)]:=h;have hl:RL J (t7 (V (oB W 0 I)) 8 8) wh:=RL.strs.2 (RdS.new a4 rfl rfl (ru _));have lF:F.le J:=aa l1 lt;refine ⟨λm out i D=>∃k:Nat,k<=8/\i=k/\m=8 - k/\out.len=k+1/\∃G vs,J.le G/\bS G (lZ::(wh.take k).map YW) vs/\St G D [own out 166 7 (tZ vs),pt b1 (Y #[n.v,U dy.2] 33)],8,⟨0,by decide,rfl,rfl,rfl,J,_,au _,r0,h⟩,?_⟩;rintro m out i D ⟨k,hk,rfl,rfl,a7,G,vs,C,Q,h⟩;unfold Jq;refine ⟨λhi=> ?_,λhi=> ?_⟩
 ·have B:k<8:=by have:(k:Int)<8:=hi;omega
  have hx:wh[k]? =V (wh[k]' B):=N5 B;generalize wh[k]=x at hx;obtain ⟨a,c,ha,P,hc⟩:=hl.get (by decide) hx;cases hc;cases ha;have g:∀{D:PH},J.le D->D.cell (nV (oB W 0 I) (nX (k:Int)*1))=V (ph x):=λhF=>aE (aN hF P) rfl;refine ⟨_,rfl,by omega,hi,x,g (aa C h.le),_,rfl,by omega,hi,x,g (aa C h.le),_,rfl,h.whole1,rfl,rfl,?_⟩;refine h.push0 T (c:=(YW x).arr pm n) rfl (by simp [ak,nI]) (by omega) λs' G' F2 O h b0=> ?_;refine ⟨h.whole1,g (aa C (aa O h.le)),g (aa C (aa O h.le)),8 - (k+1),by omega,k+1,by omega,?_,rfl,by omega,G',vs++[(YW x).arr pm n],aa C O,?_,?_⟩
  ·exact aC (n:=8) B (by decide)
  ·have e:wh.take (k+1)=wh.take k++[x]:=by rw [Wx,hx];rfl
   rw [e,yW,<- zK];exact (Q.le O).append (.cons (pR (.nil _) (hn.le (aa lt (aa C O)))) .nil)
  ·rw [ba,cI];exact h
 ·have B:k=8:=by have:¬(k:Int)<8:=hi;omega
  subst B;unfold Jp;have r9:=Q;refine h.runv (dq 9 10 _) λH1 A m1 h=> ?_;refine ⟨_,rfl,?_⟩;refine h.runv (dq 32 32 _) λH2 A m2 h=> ?_;refine ⟨_,rfl,?_⟩;refine h.runv (bZ 3 0 1 _) λH3 A m3 h=> ?_;refine ⟨_,rfl,?_⟩;refine h.runv (dq 9 10 _) λH4 A m4 h=> ?_;refine ⟨_,rfl,?_⟩;refine h.runv (dq 32 32 _) λH5 A m5 h=> ?_;refine ⟨_,rfl,?_⟩;refine h.runv (bZ 3 3 4 _) λH6 A m6 h=> ?_;refine ⟨_,rfl,?_⟩;refine h.runv (bZ 4 5 0 _) λH7 A m7 h=> ?_;refine ⟨_,rfl,?_⟩;refine h.runv (bZ 2 2 6 _) λH8 A m8 h=> ?_;refine ⟨_,rfl,rfl,rfl,rfl,rfl,rfl,rfl,rfl,rfl,?_⟩;refine h.newG λE H9 A m9 a0 _ h=> ?_;refine h.runv (dq 37 37 _) λI1 A n1 h=> ?_;refine ⟨_,rfl,?_⟩;refine h.runv (dq 97 122 _) λI2 A n2 h=> ?_;refine ⟨_,rfl,?_⟩;refine h.runv (dq 32 32 _) λI3 A n3 h=> ?_;refine ⟨_,rfl,?_⟩;refine h.runv (bZ 3 1 2 _) λI4 A n4 h=> ?_;refine ⟨_,rfl,?_⟩;refine h.runv (bZ 4 3 0 _) λI5 A n5 h=> ?_;refine ⟨_,rfl,?_⟩;refine h.runv (bZ 2 0 4 _) λI6 A n6 h=> ?_;refine ⟨_,rfl,rfl,rfl,rfl,rfl,rfl,rfl,?_⟩;refine h.newG λK I7 A n7 a1 _ h=> ?_;refine ⟨_,rfl,h.whole1,rfl,rfl,?_⟩;refine h.push0 T (c:=jE.arr (t7 (V (oB E 0 I)) 8 8) n) rfl (by simp [ak,nI]) (by omega) λs1 I8 A n8 h a8=> ?_;refine ⟨_,rfl,h.whole1,rfl,rfl,?_⟩;refine h.push0 T (c:=gN.arr (t7 (V (oB K 0 I)) 6 6) n) rfl (by simp [ak,nI]) (by omega) λs2 X A n9 h b2=> ?_;obtain ⟨ho,-⟩:=h.ownAt (i:=0) rfl;have R:=aa n8 n9;have a6:=aa n7 R;have iH:H9.le X:=aa n1 (aa n2 (aa n3 (aa n4 (aa n5 (aa n6 a6)))));have iG:G.le X:=aa m1 (aa m2 (aa m3 (aa m4 (aa m5 (aa m6 (aa m7 (aa m8 (aa m9 iH))))))));have N:=hn.le (aa lt (aa C iG));refine ⟨⟨s2,rfl,vs++[jE.arr (t7 (V (oB E 0 I)) 8 8) n]++[gN.arr (t7 (V (oB K 0 I)) 6 6) n],?_,?_⟩,aa lF (aa C (aa iG h.le))⟩
  ·have e:fi=(lZ::(wh.take 8).map YW)++[jE]++[gN]:=rfl;rw [e];have p1:RL X (t7 (V (oB E 0 I)) 8 8) jE.pat:=RL.nds.2 (RdS.new (iH _ _ a0) rfl rfl (ru _));have p2:RL X (t7 (V (oB K 0 I)) 6 6) gN.pat:=RL.nds.2 (RdS.new (R _ _ a1) rfl rfl (ru _));exact (((Q.le iG).append (.cons (pR p1 N) .nil)).append (.cons (pR p2 N) .nil)).le h.le
  ·rw [ba,ba,cI,cI];exact ho.rd
abbrev dZ (qa1:List ByteArray):Gr:=⟨[⟨#[65]⟩,⟨#[66]⟩],dy,fi,qa1,[],0,[],[]⟩
theorem ur {F:PH} {s:Sl} {A:List ο} (K:RL F s A):ν 52 #[s.v] F λr B=>(∃c n t,r=nQ ((dZ A).arr c n t s pm pm pm)/\RL B c (dZ A).qa4/\RL B n dy.1/\RL B t fi/\RL B s A)/\F.le B:=by
 refine qf0 ?_;unfold V9;refine (St.start F).new λb2 N h=> ?_;refine h.run (gW _) λ_ X N C G h=> ?_;obtain ⟨w,rfl,O⟩:=C;obtain ⟨n,rfl,L⟩:=O.out;refine ⟨_,rfl,?_⟩;refine h.new λb3 F2 h=> ?_;refine h.put0 (w':= #[n.v,U dy.2]) rfl rfl (by simp [ak,nI]) λM h=> ?_;refine ⟨_,rfl,h.whole0,?_,?_⟩
 ·refine h.newG λH P W E q _ h=> ?_;refine h.run (oG _) λ_ Q R C D h=> ?_;obtain ⟨t,rfl,J⟩:=C;refine ⟨_,rfl,h.whole0,rfl,?_⟩;refine h.put1 (w':=(dZ A).arr (t7 (V (oB H 0 I)) 2 2) n t s pm pm pm) rfl rfl (by simp [ak,nI]) λM h=> ?_;have g:=aa E D;exact ⟨_,rfl,h.whole1,⟨_,n,t,rfl,RL.strs.2 (RdS.new (h.le _ _ (D _ _ q)) rfl rfl (ru _)),L.le (aa g h.le),J.le h.le,K.le (aa G (aa g h.le))⟩,aa G (aa g h.le)⟩
 ·refine h.run (oG _) λ_ Q R C D h=> ?_;obtain ⟨t,rfl,J⟩:=C;refine ⟨_,rfl,h.whole0,?_⟩;refine h.newG λH P W E q _ h=> ?_;refine ⟨rfl,?_⟩;refine h.put1 (w':=(dZ A).arr (t7 (V (oB H 0 I)) 2 2) n t s pm pm pm) rfl rfl (by simp [ak,nI]) λM h=> ?_;have g:=aa D E;exact ⟨_,rfl,h.whole1,⟨_,n,t,rfl,RL.strs.2 (RdS.new (h.le _ _ q) rfl rfl (ru _)),L.le (aa g h.le),J.le (aa E h.le),K.le (aa G (aa g h.le))⟩,aa G (aa g h.le)⟩
theorem gO (F:PH) {arr:Γ} {k:Nat} (g:List ο) (P:arr.toList=g.map ph) (J:g.length=k) {C:Nat->Nat->Ψ} (H:∀A r D,KS F D A r (dZ g)->C A r D):
  ∀A,F A=I->xJ (F.set A (Y zG 39)) λF=>∀B,F B=I->xJ (F.set B (Y arr 9)) λF=>ν 52 #[nI (t7 (V (oB B 0 I)) k k)] F λv F=>∃w:Γ,v=nQ w/\
   ∀r,F r=I->xJ (F.set r (Y zG 39)) λF=>aA F (oB r 0 I) 9 w (C A r):=by
 refine (St.start F).new λA X h=> ?_;refine h.newG λB L F2 W q _ h=> ?_;have K:RL L (t7 (V (oB B 0 I)) k k) g:=RL.strs.2 (RdS.new q (by rw [xF,<- J,<- ub (f:=ph),<- P];exact wB) (by rw [ub];omega) (ru _));refine h.run (ur K) λ_ O F3 M N h=> ?_;obtain ⟨c,n,t,rfl,E,G,R,Q⟩:=M;refine ⟨_,rfl,?_⟩;refine h.new λr F4 h=> ?_;refine h.put0 (w':=(dZ g).arr c n t (t7 (V (oB B 0 I)) k k) pm pm pm) rfl rfl (by simp [ak,nI]) λF5 h=> ?_;have h:=(h.nilOwn 64 13).swap;exact H _ _ _ ⟨O,c,n,t,_,pm,pm,pm,[],aa W N,h,.nil,E,G,R,Q,.nil _,.nil _⟩
theorem KS.allv {K F:PH} {E J:Nat} {g:Gr} (h:KS K F E J g) {C:Nat->Ψ} (k:∀b B H n,K.le B->B b=V (Y #[nI n,U dy.2] 33)->RL B n dy.1->KS B H E J g->C b H):
  ν 85 #[nW nk] F λv F=>∃w:Γ,v=nQ w/\∀b,F b=I->xJ (F.set b (Y #[.slice I 0 0,.int .i64 0] 33)) λF=>aA F (oB b 0 I) 2 w (C b):=by
 refine h.run (λG _=>gW G) λ_ K1 X R W h=> ?_;obtain ⟨w,rfl,N⟩:=R;obtain ⟨n,rfl,M⟩:=N.out;refine ⟨_,rfl,?_⟩;obtain ⟨G,c,Q,t,s,O,l,f,vs,h⟩:=h;refine h.st.new λb F2 st=> ?_;refine st.put0 (w':= #[n.v,U dy.2]) rfl rfl (by simp [ak,nI]) λP st=> ?_;refine st.pinb λL A q st=> ?_;have D:=aa h.k A;exact k b L P n (aa W D) q (M.le D) ⟨L,c,Q,t,s,O,l,f,vs,au _,st,h.r.le A,h.c.le A,h.n.le A,h.t.le A,h.s.le A,h.l.le A,h.f.le A⟩
abbrev yQ (v:Nat):wa:=pj (ap2 ly (tv v) (qa6 nk))
theorem nP {F:PH} {v:Γ} {x:Nat} (B:x<6) (h:DV F v (pj (tv x))):ν 157 #[nQ v] F λr g=>BZ (yQ x) r g/\F.le g:=
 (sW h ((Sx.tv (n:=6) B (by decide)).f2 (Sx.qa6 6 nk) (by decide))).mono λ_ _ ⟨w,A,C,D⟩=>⟨⟨w,A,C⟩,D⟩
def bY:Gr:={(dZ [⟨#[69]⟩]) with qa0:=[bA ⟨#[97,100,100]⟩ 0 [⟨mD,0⟩,⟨nk,1⟩,⟨mD,0⟩],bA ⟨#[109,117,108]⟩ 0 [⟨mD,0⟩,⟨nk,2⟩,⟨mD,0⟩],{(bA ⟨#[98,114,97,99,107,101,116]⟩ 0 [⟨nk,3⟩,⟨mD,0⟩,⟨nk,4⟩]) with brk:=nk},bA ⟨#[110,97,109,101]⟩ 0 [⟨nk,0⟩],{(bA ⟨#[112,111,119]⟩ 0 [⟨mD,0⟩,⟨nk,8⟩,⟨mD,0⟩]) with cond:=pj (tv 1)}],lvs:=[⟨[4],2,dy⟩,⟨[1],1,dy⟩,⟨[0],1,yQ 0⟩]}
def bP:Gr:={(dZ [⟨#[83]⟩,⟨#[67]⟩]) with qa0:=[bA ⟨#[98,111,116,104]⟩ 0 [⟨nk,5⟩,⟨mD,1⟩,⟨mD,0⟩,⟨nk,6⟩,⟨mD,0⟩],bA ⟨#[116,104,101,110]⟩ 0 [⟨nk,5⟩,⟨mD,1⟩,⟨mD,0⟩],bA ⟨#[99,97,108,108]⟩ 0 [⟨mD,1⟩,⟨nk,7⟩],{(bA ⟨#[98,108,111,99,107]⟩ 0 [⟨nk,3⟩,⟨mD,0⟩,⟨nk,4⟩]) with brk:=nk},bA ⟨#[119,111,114,100]⟩ 1 [⟨nk,0⟩]],fils:=[⟨2,0,2,1,0,0,[],pj (tv 0)⟩,⟨5,0,0,0,0,0,[5,6],pj (tv 1)⟩]}
def aQ:Gr:={(dZ [⟨#[76]⟩,⟨#[73]⟩]) with qa0:=[bA ⟨#[101,109,112,116,121]⟩ 0 [],bA ⟨#[109,111,114,101]⟩ 0 [⟨mD,0⟩,⟨mD,1⟩],{(bA ⟨#[116,121,112,101]⟩ 1 [⟨nk,1⟩,⟨nk,0⟩,⟨nk,7⟩]) with sco:=⟨mD,2,1,0,0⟩},{(bA ⟨#[112,111,105,110,116,101,114]⟩ 1 [⟨nk,0⟩,⟨nk,2⟩,⟨nk,0⟩,⟨nk,7⟩]) with sco:=⟨mD,3,2,1,2⟩},{(bA ⟨#[112,114,111,100,117,99,116]⟩ 1 [⟨nk,0⟩,⟨nk,2⟩,⟨nk,0⟩,⟨nk,7⟩]) with sco:=⟨mD,0,0,1,5⟩,rank:= -1},{(bA ⟨#[105,110,110,101,114]⟩ 1 [⟨nk,3⟩,⟨mD,0⟩,⟨nk,4⟩]) with sco:=⟨nk,0,0,0,0⟩},{(bA ⟨#[115,116,114,105,99,116]⟩ 1 [⟨nk,0⟩,⟨nk,7⟩]) with sco:=⟨mD,0,0,1,6⟩,cond:=pj (tv 0)}]}
def iq:Gr:={(dZ [⟨#[66]⟩,⟨#[73]⟩]) with qa0:=[bA ⟨#[111,110,101]⟩ 0 [⟨mD,1⟩],{(bA ⟨#[108,105,115,116]⟩ 0 [⟨mD,0⟩,⟨mD,1⟩]) with lay:=[⟨2,0,1⟩]},bA ⟨#[119,111,114,100]⟩ 1 [⟨nk,0⟩],{(bA ⟨#[104,101,97,100]⟩ 1 [⟨nk,5⟩,⟨nk,0⟩,⟨mD,0⟩]) with lay:=[⟨3,0,2⟩,⟨1,2,0⟩]},{(bA ⟨#[108,105,110,101]⟩ 1 [⟨nk,5⟩,⟨mD,0⟩]) with lay:=[⟨4,0,1⟩],cond:=pj (tv 0)}]}
def fO:Gr:={(dZ [⟨#[83]⟩,⟨#[87]⟩,⟨#[86]⟩]) with qa0:=[bA ⟨#[112,97,105,114]⟩ 0 [⟨mD,1⟩,⟨mD,2⟩],{(bA ⟨#[115,105,110,103,108,101]⟩ 1 [⟨nk,0⟩]) with rank:= -1},bA ⟨#[100,111,117,98,108,101]⟩ 1 [⟨nk,0⟩,⟨nk,0⟩],bA ⟨#[110,111,110,101]⟩ 2 [],bA ⟨#[110,101,120,116]⟩ 2 [⟨nk,0⟩,⟨mD,2⟩],{(bA ⟨#[109,97,114,107]⟩ 2 [⟨nk,1⟩,⟨mD,2⟩]) with cond:=pj (tv 1)}],fils:=[⟨3,0,0,0,1,0,[0],pj (tv 0)⟩,⟨4,0,0,0,2,0,[1],yQ 1⟩]}
def fQ:Gr:={(dZ [⟨#[83]⟩,⟨#[79]⟩,⟨#[80]⟩]) with qa0:=[bA ⟨#[97,108,108]⟩ 0 [⟨mD,1⟩,⟨nk,0⟩,⟨mD,1⟩,⟨mD,2⟩],bA ⟨#[110,111]⟩ 1 [],bA ⟨#[121,101,115]⟩ 1 [⟨nk,1⟩],bA ⟨#[101,110,100]⟩ 2 [],{(bA ⟨#[114,101,115,116]⟩ 2 [⟨nk,1⟩,⟨mD,2⟩]) with cond:=pj (tv 0)}]}
theorem gh (F:PH):ν 27 #[] F λr g=>(∃w,r=nQ w/\GV g w aQ)/\F.le g:=by refine qfZ ?_;unfold V8;refine gO F [⟨#[76]⟩,⟨#[73]⟩] rfl rfl λD E C h=> ?_;refine h.rule0 (by decide) λF2 h=> ?_;refine h.rule2 (dV 0) (dV 1) (by decide) λF2 h=> ?_;refine h.rule3 (cR 1) (cR 0) (cR 7) (by decide) λF2 h=> ?_;refine h.rule4 (cR 0) (cR 2) (cR 0) (cR 7) (by decide) λF2 h=> ?_;refine h.rule4 (cR 0) (cR 2) (cR 0) (cR 7) (by decide) λF2 h=> ?_;refine h.rule3 (cR 3) (dV 0) (cR 4) (by decide) λF2 h=> ?_;refine h.rule2 (cR 0) (cR 7) (by decide) λF2 h=> ?_;refine h.sco 2 rfl λF2 h=> ?_;refine h.sco 3 rfl λF2 h=> ?_;refine h.sco 4 rfl λF2 h=> ?_;refine h.sco 5 rfl λF2 h=> ?_;refine h.sco 6 rfl λF2 h=> ?_;refine h.rank 4 rfl λF2 h=> ?_;refine h.cnd 6 rfl 0 (by decide) λF2 h=> ?_;exact h.fin (R:=λr g=>(∃w,r=nQ w/\GV g w aQ)/\F.le g) λw g A B=>⟨⟨w,rfl,A⟩,B⟩
theorem qhX (F:PH):ν 124 #[] F λr g=>(∃w,r=nQ w/\GV g w iq)/\F.le g:=by refine qdX ?_;unfold Pc;refine gO F [⟨#[66]⟩,⟨#[73]⟩] rfl rfl λD E C h=> ?_;refine h.rule1 (dV 1) (by decide) λF2 h=> ?_;refine h.rule2 (dV 0) (dV 1) (by decide) λF2 h=> ?_;refine h.rule1 (cR 0) (by decide) λF2 h=> ?_;refine h.rule3 (cR 5) (cR 0) (dV 0) (by decide) λF2 h=> ?_;refine h.rule2 (cR 5) (dV 0) (by decide) λF2 h=> ?_;refine h.lay1 1 rfl λF2 h=> ?_;refine h.lay2 3 rfl λF2 h=> ?_;refine h.lay1 4 rfl λF2 h=> ?_;refine h.cnd 4 rfl 0 (by decide) λF2 h=> ?_;exact h.fin (R:=λr g=>(∃w,r=nQ w/\GV g w iq)/\F.le g) λw g A B=>⟨⟨w,rfl,A⟩,B⟩
theorem qhH (F:PH):ν 126 #[] F λr g=>(∃w,r=nQ w/\GV g w fQ)/\F.le g:=by refine qdZ ?_;unfold Pe;refine gO F [⟨#[83]⟩,⟨#[79]⟩,⟨#[80]⟩] rfl rfl λD E C h=> ?_;refine h.rule4 (dV 1) (cR 0) (dV 1) (dV 2) (by decide) λF2 h=> ?_;refine h.rule0 (by decide) λF2 h=> ?_;refine h.rule1 (cR 1) (by decide) λF2 h=> ?_;refine h.rule0 (by decide) λF2 h=> ?_;refine h.rule2 (cR 1) (dV 2) (by decide) λF2 h=> ?_;refine h.cnd 4 rfl 0 (by decide) λF2 h=> ?_;exact h.fin (R:=λr g=>(∃w,r=nQ w/\GV g w fQ)/\F.le g) λw g A B=>⟨⟨w,rfl,A⟩,B⟩
theorem kX {F:PH} {b:Nat} {e:TypeId} {x:Int} (q:F b=V (Y #[U x] e)):RL F (t7 (V (oB b 0 I)) 1 1) [x]:=RL.ints.2 (RdS.new q rfl rfl (ru _))
theorem pS {F:PH} {x:Fi} {t n:Sl} (h:RL F t x.qa2) (g:RL F n x.cond.1):Mem.rep F x (x.arr t n):=⟨t,n,rfl,h,g⟩
theorem wj {F:PH} {x:Lv} {p n:Sl} (h:RL F p x.ps) (g:RL F n x.cond.1):Mem.rep F x (x.arr p n):=⟨p,n,rfl,h,g⟩
theorem qhI (F:PH):ν 125 #[] F λr A=>(∃w,r=nQ w/\GV A w fO)/\F.le A:=by refine qdY ?_;unfold Pd;refine gO F [⟨#[83]⟩,⟨#[87]⟩,⟨#[86]⟩] rfl rfl λb0 b1 F1 h=> ?_;refine h.rule2 (dV 1) (dV 2) (by decide) λF2 h=> ?_;refine h.rule1 (cR 0) (by decide) λF2 h=> ?_;refine h.rule2 (cR 0) (cR 0) (by decide) λF2 h=> ?_;refine h.rule0 (by decide) λF2 h=> ?_;refine h.rule2 (cR 0) (dV 2) (by decide) λF2 h=> ?_;refine h.rule2 (cR 1) (dV 2) (by decide) λF2 h=> ?_;refine h.rank 1 rfl λF2 h=> ?_;refine h.cnd 5 rfl 1 (by decide) λF2 h=> ?_;refine h.new λW K3 F3 X K h=> ?_;refine h.run (λG _=>bR 0 (by decide) G) λ_ K4 F4 B O h=> ?_;obtain ⟨_,rfl,H⟩:=B;obtain ⟨m,rfl,P⟩:=H.out;refine ⟨_,rfl,rfl,?_⟩;refine h.new λa0 K5 F5 l5 L h=> ?_;refine h.run (λG _=>bR 1 (by decide) G) λ_ K6 F6 B l6 h=> ?_;obtain ⟨_,rfl,E⟩:=B;refine ⟨_,rfl,?_⟩;refine h.run (λG D=>nP (by decide) (E.le D)) λ_ K7 F7 B l7 h=> ?_;obtain ⟨_,rfl,H⟩:=B;obtain ⟨m',rfl,M⟩:=H.out;refine ⟨_,rfl,rfl,rfl,rfl,?_⟩;refine h.new λQ K8 F8 N J h=> ?_;have C:=aa l6 (aa l7 N);have g:=aa l5 C;refine h.fils (x:=[⟨3,0,0,0,1,0,[0],pj (tv 0)⟩,⟨4,0,0,0,2,0,[1],yQ 1⟩]) ⟨[_,_],.cons (pS (kX (g _ _ (O _ _ K))) (P.le g)) (.cons (pS (kX (C _ _ L)) (M.le N)) .nil),RdS.new J (by kernel_rfl) rfl (ru _)⟩ λF9 h=> ?_;exact h.fin (R:=λr A=>(∃w,r=nQ w/\GV A w fO)/\F.le A) λw A E D=>⟨⟨w,rfl,E⟩,aa X (aa O (aa g D))⟩
def wn:Gr:={(dZ [⟨#[83]⟩,⟨#[67]⟩]) with qa0:=bP.qa0}
theorem DD {K F F0:PH} {L N B C:Nat} {g:Gr} {c n t s sp l m v:Sl} {vs:List Γ} (hF:F0.le K) (W:{g with fils:=[⟨2,0,2,1,0,0,[],pj (tv 0)⟩,⟨5,0,0,0,0,0,[5,6],pj (tv 1)⟩]}=bP)
  (st:St K F [pt C (Y (wr (wr (#[rV .i64 0,.int .i64 0,.int .i64 0,.int .i64 0,.int .i64 0,.int .i64 0,.slice I 0 0,.slice I 0 0,.int .i64 0,.int .i64 0,.int .i64 0,.int .i64 0,.int .i64 0,.int .i64 0,.int .i64 0,.slice I 0 0,.slice I 0 0,.int .i64 0]:Γ) 0 (wr (tC (tC (tC (#[rV .i64 0,.int .i64 0,.int .i64 0,.int .i64 0,.int .i64 0,.int .i64 0,.slice I 0 0,.slice I 0 0,.int .i64 0]:Γ) 0 (U 2)) 2 (U 2)) 3 (U 1)) 7 (#[m.v,U (pj (tv 0)).2]:Γ).toList).toList) 9 (wr (tC (tC (#[rV .i64 0,.int .i64 0,.int .i64 0,.int .i64 0,.int .i64 0,.int .i64 0,.slice I 0 0,.slice I 0 0,.int .i64 0]:Γ) 0 (U 5)) 6 (nI (t7 (V (oB B 0 I)) 2 2))) 7 (#[v.v,U dy.2]:Γ).toList).toList) 233),pt N (Y (g.arr c n t s sp l (t7 (V (oB C 0 I)) 2 2)) 39),own sp 64 13 (tZ vs),pt L (Y zG 39)])
  (hr:bS K g.qa0 vs) (hc:RL K c g.qa4) (hn:RL K n g.fam.1) (ht:RL K t g.qa2) (X:RL K s g.qa1) (E:RL K l g.lvs) (Q:RL K m (pj (tv 0)).1) (G:RL K (t7 (V (oB B 0 I)) 2 2) [(5:Int),6]):
  p7 L N (λr D=>(∃w,r=nQ w/\GV D w bP)/\F0.le D) F:=by
 unfold p7;refine ⟨_,st.ld1 rfl,?_⟩;refine st.run (bR 1 (by decide) _) λ_ K1 F1 J l1 st=> ?_;obtain ⟨_,rfl,hw⟩:=J;obtain ⟨m1,rfl,M⟩:=hw.out;refine ⟨_,rfl,st.ld1 rfl,_,rfl,by decide,(by show (1:Int)<2;decide),?_⟩;simp only [aI];refine st.putR0 (o:=16) (w':= #[U 2,U 0,U 2,U 1,U 0,U 0,nI pm,m.v,U (pj (tv 0)).2,U 5,U 0,U 0,U 0,U 0,U 0,nI (t7 (V (oB B 0 I)) 2 2),m1.v,U (pj (tv 1)).2]) rfl (by simp [ak,nI]) (by rw [dJ,dJ];show 16+2<=18;decide) (by kernel_rfl) λF2 st=> ?_;obtain ⟨O,P,⟨H,hA,hH⟩,st⟩:=st.pin;have q:=hH _ _ hA;have A:=aa l1 P;have hf:RL O (t7 (V (oB C 0 I)) 2 2) [(⟨2,0,2,1,0,0,[],pj (tv 0)⟩:Fi),⟨5,0,0,0,0,0,[5,6],pj (tv 1)⟩]:=
  ⟨[_,_],.cons (pS (t:=pm) (.nil _) (Q.le A)) (.cons (pS (G.le A) (M.le P)) .nil),RdS.new q (by kernel_rfl) rfl (ru _)⟩
 have h:KS O F2 L N bP:=by rw [<- W];exact ⟨O,c,n,t,s,sp,l,_,vs,au _,st,hr.le A,hc.le A,hn.le A,ht.le A,X.le A,E.le A,hf⟩
 exact h.fin (R:=λr D=>(∃w,r=nQ w/\GV D w bP)/\F0.le D) λw D hv E=>⟨⟨w,rfl,hv⟩,aa hF (aa A E)⟩
theorem qg7 (F:PH):ν 123 #[] F λr N=>(∃w,r=nQ w/\GV N w bP)/\F.le N:=by
 refine qdW ?_;unfold Pb;refine gO F [⟨#[83]⟩,⟨#[67]⟩] rfl rfl λb0 b1 F1 h=> ?_;refine h.allv λb2 K1 F2 n H q O h=> ?_;refine h.rule5 (cR 5) (dV 1) (dV 0) (cR 6) (dV 0) (by decide) λF2 h=> ?_;refine h.rule3 (cR 5) (dV 1) (dV 0) (by decide) λF2 h=> ?_;refine h.rule2 (dV 1) (cR 7) (by decide) λF2 h=> ?_;refine h.rule3 (cR 3) (dV 0) (cR 4) (by decide) λF2 h=> ?_;refine h.rule1 (cR 0) (by decide) λF2 h=> ?_;refine h.brk 3 rfl λF2 h=> ?_;refine ⟨_,rfl,ai (h.le _ _ q),?_⟩;obtain ⟨G,c,P,t,s,Q,l,f,vs,h⟩:=h;have O:=O.le h.k;have H:=aa H h.k;refine ⟨?_,?_⟩
 ·refine h.st.run (bR 0 (by decide) _) λ_ W F4 L D st=> ?_;obtain ⟨_,rfl,M⟩:=L;obtain ⟨m,rfl,J⟩:=M.out;refine ⟨_,rfl,ai (st.le _ _ (D _ _ (h.k _ _ q))),rfl,?_⟩;refine st.newG λK K5 F5 E C _ st=> ?_;refine ⟨rfl,rfl,rfl,?_⟩;refine st.new λB R st=> ?_;refine st.set1 (w':=(wn.arr c P t s Q l (t7 (V (oB B 0 I)) 2 2))) (vr rfl) rfl λX st=> ?_;have A:=aa D E;exact DD (g:=wn) (aa H A) rfl st (h.r.le A) (h.c.le A) (h.n.le A) (h.t.le A) (h.s.le A) (h.l.le A) (J.le E) (RL.ints.2 (RdS.new C rfl rfl (ru _)))
 ·refine h.st.newG λK K5 F5 E C _ st=> ?_;refine ⟨rfl,?_⟩;refine st.run (bR 0 (by decide) _) λ_ W F4 L D st=> ?_;obtain ⟨_,rfl,M⟩:=L;obtain ⟨m,rfl,J⟩:=M.out;refine ⟨_,rfl,ai (st.le _ _ (D _ _ (E _ _ (h.k _ _ q)))),rfl,rfl,rfl,?_⟩;refine st.new λB R st=> ?_;refine st.set1 (w':=(wn.arr c P t s Q l (t7 (V (oB B 0 I)) 2 2))) (vr rfl) rfl λX st=> ?_;have A:=aa E D;exact DD (g:=wn) (aa H A) rfl st (h.r.le A) (h.c.le A) (h.n.le A) (h.t.le A) (h.s.le A) (h.l.le A) J ((RL.ints.2 (RdS.new C rfl rfl (ru _))).le D)
def qdl:Gr:={bY with lvs:=[]}
abbrev Vg (K0:PH):VR:=λr F'=>(∃w,r=nQ w/\GV F' w bY)/\K0.le F'
structure EK (K0 F:PH) (b0 b1 b2:Nat) (n:Sl) (x y z:Nat) (m o:Sl) (p q r s u:Bool):Prop where
 ex:∃K,KS K F b0 b1 qdl/\K0.le K/\K b2=V (Y #[nI n,U dy.2] 33)/\RL K n dy.1/\(p=nk->K x=V (Y #[U 4] 3))/\(q=nk->K y=V (Y #[U 1] 3))/\(r=nk->K z=V (Y #[U 0] 3))/\(s=nk->RL K m (pj (tv 0)).1)/\(u=nk->RL K o (yQ 0).1)
section
variable {K0 F:PH} {b0 b1 b2 x y z:Nat} {n m o:Sl} {p q r s u:Bool} {C:Nat->Ψ} {D:Γ->Ψ}
theorem EK.row (H:EK K0 F b0 b1 b2 n x y z m o p q r s u):F.row (oB b2 0 I) #[nI n,U dy.2]:=by obtain ⟨K,h,_,a,_⟩:=H.ex;exact ai (h.le _ _ a)
theorem EK.n1 (H:EK K0 F b0 b1 b2 n x y z m o p q r s u) (k:∀x F,EK K0 F b0 b1 b2 n x y z m o nk q r s u->C x F):Nb F (Y #[U 4] 3) C:=by obtain ⟨K,h,l,a,c,L,w,J,G,E⟩:=H.ex;exact h.new λb A B g e h=>k b B ⟨A,h,aa l g,g _ _ a,c.le g,λ_=>e,λi=>g _ _ (w i),λi=>g _ _ (J i),λi=>(G i).le g,λi=>(E i).le g⟩
theorem EK.n2 (H:EK K0 F b0 b1 b2 n x y z m o p q r s u) (k:∀y F,EK K0 F b0 b1 b2 n x y z m o p nk r s u->C y F):Nb F (Y #[U 1] 3) C:=by obtain ⟨K,h,l,a,c,w,L,J,G,E⟩:=H.ex;exact h.new λb A B g e h=>k b B ⟨A,h,aa l g,g _ _ a,c.le g,λi=>g _ _ (w i),λ_=>e,λi=>g _ _ (J i),λi=>(G i).le g,λi=>(E i).le g⟩
theorem EK.n3 (H:EK K0 F b0 b1 b2 n x y z m o p q r s u) (k:∀z F,EK K0 F b0 b1 b2 n x y z m o p q nk s u->C z F):Nb F (Y #[U 0] 3) C:=by obtain ⟨K,h,l,a,c,w,A,L,J,G⟩:=H.ex;exact h.new λb B E g e h=>k b E ⟨B,h,aa l g,g _ _ a,c.le g,λi=>g _ _ (w i),λi=>g _ _ (A i),λ_=>e,λi=>(J i).le g,λi=>(G i).le g⟩
theorem EK.c0 (H:EK K0 F b0 b1 b2 n x y z m o p q r s u) (k:∀m F,EK K0 F b0 b1 b2 n x y z m o p q r nk u->D #[nI m,U (pj (tv 0)).2] F):Ca 56 #[U (0:Int)] F D:=by obtain ⟨K,h,l,a,c,w,B,N,O,L⟩:=H.ex;refine h.run (λG _=>bR 0 (by decide) G) λ_ E J M g h=> ?_;obtain ⟨_,rfl,A⟩:=M;obtain ⟨m,rfl,e⟩:=A.out;exact ⟨_,rfl,k m J ⟨E,h,aa l g,g _ _ a,c.le g,λi=>g _ _ (w i),λi=>g _ _ (B i),λi=>g _ _ (N i),λ_=>e,λi=>(L i).le g⟩⟩
theorem EK.c1 (H:EK K0 F b0 b1 b2 n x y z m o p q r nk u) (k:∀o F,EK K0 F b0 b1 b2 n x y z m o p q r nk nk->D #[nI o,U (yQ 0).2] F):Ca 157 #[nQ #[nI m,U (pj (tv 0)).2]] F D:=by obtain ⟨K,h,l,a,c,A,E,N,w,P⟩:=H.ex;refine h.run (λG O=>nP (x:=0) (by decide) ((DV.mk (w rfl)).le O)) λ_ J L M g h=> ?_;obtain ⟨_,rfl,B⟩:=M;obtain ⟨o,rfl,e⟩:=B.out;exact ⟨_,rfl,k o L ⟨J,h,aa l g,g _ _ a,c.le g,λi=>g _ _ (A i),λi=>g _ _ (E i),λi=>g _ _ (N i),λi=>(w i).le g,λ_=>e⟩⟩
theorem EK.fin {cs:Γ} (A:cs.toList=tZ [Lv.arr ⟨[4],2,dy⟩ (Sb x 1) n,Lv.arr ⟨[1],1,dy⟩ (Sb y 1) n,Lv.arr ⟨[0],1,yQ 0⟩ (Sb z 1) o]) (H:EK K0 F b0 b1 b2 n x y z m o nk nk nk s nk):Nb F (Y cs 236) λb F=>mE b1 b b0 (Vg K0) F:=by
 obtain ⟨K,h,l,a,c,B,E,M,W,L⟩:=H.ex;refine h.new λb O J g e h=> ?_;unfold mE;have Q:cs.size=12:=by rw [<- zQ,A];rfl
 refine h.lvs (x:=bY.lvs) ⟨[_,_,_],.cons (wj (kX (g _ _ (B rfl))) (c.le g)) (.cons (wj (kX (g _ _ (E rfl))) (c.le g)) (.cons (wj (kX (g _ _ (M rfl))) ((L rfl).le g)) .nil)),RdS.new e (by rw [A];rfl) rfl (ru _)⟩ λP h=> ?_;unfold D9;exact h.fin (R:=Vg K0) λw J G N=>⟨⟨w,rfl,G⟩,aa l (aa g N)⟩
end
theorem qgZ (F:PH):ν 122 #[] F λr g=>(∃w,r=nQ w/\GV g w bY)/\F.le g:=by
 refine qdV ?_;unfold Pa;refine gO F [⟨#[69]⟩] rfl rfl λB E G h=> ?_;refine h.allv λC J F2 n D q A h=> ?_;refine h.rule3 (dV 0) (cR 1) (dV 0) (by decide) λF2 h=> ?_;refine h.rule3 (dV 0) (cR 2) (dV 0) (by decide) λF2 h=> ?_;refine h.rule3 (cR 3) (dV 0) (cR 4) (by decide) λF2 h=> ?_;refine h.rule1 (cR 0) (by decide) λF2 h=> ?_;refine h.rule3 (dV 0) (cR 8) (dV 0) (by decide) λF2 h=> ?_;refine h.brk 2 rfl λF2 h=> ?_;refine h.cnd 4 rfl 1 (by decide) λF2 h=> ?_;have H:EK F _ B E C n 0 0 0 n n mD mD mD mD mD:=⟨_,h,D,q,A,λi=>(by cases i),λi=>(by cases i),λi=>(by cases i),λi=>(by cases i),λi=>(by cases i)⟩;refine ⟨_,rfl,H.row,_,rfl,H.row,?_⟩
 repeat' first
  |exact H.fin (by kernel_rfl)
  |refine ⟨rfl,?_⟩
  |refine ⟨H.row,?_⟩
  |refine And.intro ?_ ?_
  |refine H.n1 λx F H=> ?_
  |refine H.n2 λy F H=> ?_
  |refine H.n3 λz F H=> ?_
  |refine H.c0 λm F H=> ?_
  |refine H.c1 λo F H=> ?_
def cj (k:Nat):Gr:=if k=0 then bY else if k=1 then bP else if k=2 then aQ else if k=3 then iq else if k=4 then fO else fQ
theorem Bv (k:Nat) (F:PH):ν 92 #[rV .u8 (k:Int)] F λr C=>(∃w,r=nQ w/\GV C w (cj (k % 6)))/\F.le C:=by
 refine aaa ?_;unfold Wh;refine (St.start F).new λb B h=> ?_;have e:sj (k:Int) 6=((k % 6:Nat):Int):=by rw [Xv (by omega)];omega
 rw [e];have M:k % 6<6:=VU _ (by decide);generalize k % 6=j at*;have fin:∀{v:ξ} {G B:PH},F.le G->(∃w,v=nQ w/\GV G w (cj j))->St G B [pt b (Y zG 39)]->∃w:Γ,v=nQ w/\aA B (oB b 0 I) 9 w λF2=>∃w:Γ,w.size=9/\F2.row (oB b 0 I) w/\((∃w',nQ w=nQ w'/\GV F2 w' (cj j))/\F.le F2):=λ{v G B} L A h=>by obtain ⟨w,rfl,A⟩:=A;exact ⟨w,rfl,h.put0 (w':=w) A.size rfl A.st λF2 h=>⟨w,A.size,h.whole0,⟨w,rfl,A.le h.le⟩,aa L h.le⟩⟩
 refine ⟨λH=> ?_,λH=>⟨λD=> ?_,λD=>⟨λE=> ?_,λE=>⟨λK=> ?_,λK=>⟨λJ=> ?_,λJ=> ?_⟩⟩⟩⟩⟩
 ·obtain rfl:j=0:=by omega
  exact h.run (qgZ _) λ_ G F2 g l h=>fin l g h
 ·obtain rfl:j=1:=by omega
  exact h.run (qg7 _) λ_ G F2 g l h=>fin l g h
 ·obtain rfl:j=2:=by omega
  exact h.run (gh _) λ_ G F2 g l h=>fin l g h
 ·obtain rfl:j=3:=by omega
  exact h.run (qhX _) λ_ G F2 g l h=>fin l g h
 ·obtain rfl:j=4:=by omega
  exact h.run (qhI _) λ_ G F2 g l h=>fin l g h
 ·obtain rfl:j=5:=by omega
  exact h.run (qhH _) λ_ G F2 g l h=>fin l g h
def jb (b n:Nat):Tr:=if n=0\/b % 6<3 then qa6 nk else if b % 6=3 then tv (b / 6 % n) else if b % 6=4 then ap2 ly (tv (b / 6 % n)) (qa6 nk) else iY [(b:Int)] n 0 0
theorem DE {n:Nat} (h:n<256):u8.wrap (n:Int)=n:=by simp only [IntKind.wrap,IntKind.bits,IntKind.signed,W6,VQ,if_false];omega
theorem wo {F G g:PH} {b:Nat} {As:List (Ψ)} {w c:Γ} {d:wa} {P:Prop} (h:St G g (pt b (Y c 33)::As)) (C:c.size=2) (A:DV G w d) (D:F.le G) (B:P):
  aA g (oB b 0 I) 2 w λF2=>∃v:Γ,v.size=2/\F2.row (oB b 0 I) v/\((BZ d (nQ v) F2/\P)/\F.le F2):=by
 obtain ⟨n,rfl,r⟩:=A.out;refine h.put0 (w':= #[n.v,U d.2]) rfl C (by simp [ak,nI]) λF2 h=> ?_;exact ⟨_,rfl,h.whole0,⟨⟨_,rfl,DV.mk (r.le h.le)⟩,B⟩,aa D h.le⟩
theorem yS (b n:Nat) (hb:b<256) (D:n<=6) (F:PH):ν 128 #[rV .u8 (b:Int),U n] F λr C=>(BZ (pj (jb b n)) r C/\Sx n (jb b n))/\F.le C:=by
 refine qd0 ?_;unfold Pf;refine (St.start F).new λb4 F1 h=> ?_;have W:sj (b:Int) 6=((b % 6:Nat):Int):=by rw [Xv (by omega)];omega
 have j1:∀q:Bool,(n=0->q=nk)->(n≠0->q=decide (b % 6<3))->qe (b:Int) (n:Int) b4 q (λr C=>(BZ (pj (jb b n)) r C/\Sx n (jb b n))/\F.le C) F1:=λq K H=>by
  unfold qe;refine ⟨λE=> ?_,λE=> ?_⟩
  ·have e:jb b n=qa6 nk:=by
    unfold jb;rw [Χ];by_cases g:n=0
    ·exact .inl g
    ·have:=H g;rw [E] at this;exact .inr (ζ this.symm)
   rw [e];refine h.run (gW _) λ_ G F2 A l h=> ?_;obtain ⟨w,rfl,B⟩:=A;exact ⟨_,rfl,wo h rfl B l (Sx.qa6 n nk)⟩
  ·have g:n≠0:=λg=>by rw [K g] at E;cases E
   have a0:¬b % 6<3:=by have:=H g;rw [E] at this;exact ι this.symm
   have ev:sj (i64.wrap (u8.wrap (Int.tdiv (b:Int) 6))) (n:Int)=((b / 6 % n:Nat):Int):=by
    have e1:Int.tdiv (b:Int) 6=((b / 6:Nat):Int):=by rw [Zc (by omega)];omega
    have e2:u8.wrap ((b / 6:Nat):Int)=((b / 6:Nat):Int):=DE (by omega);rw [e1,e2,aJ (by omega),Xv (by omega)];exact (Int.natCast_emod _ _).symm
   have L:b / 6 % n<n:=VU _ (by omega);refine ⟨by omega,?_⟩;rw [ev,W];generalize X:b / 6 % n=x at*;refine h.run (bR x (by omega) _) λ_ G F2 A l h=> ?_;obtain ⟨w,rfl,B⟩:=A;obtain ⟨m,rfl,Q⟩:=B.out;refine ⟨_,rfl,?_⟩;refine h.new λb5 F3 h=> ?_;refine h.put0 (w':= #[m.v,U (pj (tv x)).2]) rfl rfl (by simp [ak,nI]) λF4 h=> ?_;have R:Sx n (tv x):=Sx.tv L D;refine ⟨λJ=> ?_,λJ=>⟨λN=> ?_,λN=> ?_⟩⟩
   ·have e:jb b n=tv x:=by unfold jb;rw [Υ (by omega),Χ (by omega),X]
    rw [e];refine ⟨_,rfl,h.whole0,?_⟩;have h:=h.swap;exact wo h rfl (DV.mk Q) l R
   ·have e:jb b n=ap2 ly (tv x) (qa6 nk):=by unfold jb;rw [Υ (by omega),Υ (by omega),Χ (by omega),X]
    rw [e];refine ⟨_,rfl,h.whole0,?_⟩;refine h.run (nP (x:=x) (by omega) (DV.mk Q)) λ_ G2 F5 A M h=> ?_;obtain ⟨w,rfl,B⟩:=A;refine ⟨_,rfl,?_⟩;have h:=h.swap;exact wo h rfl B (aa l M) (R.ap2 (Sx.qa6 n nk))
   ·have e:jb b n=iY [(b:Int)] n 0 0:=by unfold jb;rw [Υ (by omega),Υ (by omega),Υ (by omega)]
    rw [e];refine h.newG λO G2 F5 M q _ h=> ?_;have A:RdS G2 (t7 (V (oB O 0 I)) 1 1) 1 ([(b:Int)].map (rV .u8)):=RdS.new q rfl rfl (ru _);refine h.run (P:=λr G=>(∃u,r=nQ u/\DV G u (pj (iY [(b:Int)] n 0 0)))/\Sx n (iY [(b:Int)] n 0 0)) ((oS D A).mono λr C ⟨u,t,H,⟨h2,J⟩,N,h5⟩=>⟨⟨⟨u,H,J▸N⟩,J▸h2⟩,h5⟩) λ_ G3 F6 A l3 h=> ?_;obtain ⟨⟨w,rfl,B⟩,hs⟩:=A;refine ⟨_,rfl,?_⟩;have h:=h.swap;exact wo h rfl B (aa l (aa M l3)) hs
 refine ⟨λK=>j1 nk (λ_=>rfl) (λD=>absurd (by omega) D),λK=>j1 _ (λD=>absurd (by omega) K) (λ_=> ?_)⟩;rw [W];exact decide_eq_decide.2 (by omega)
open Classical in
def wq (p:Pr):Bool:=decide (BT p)
theorem qhJ {F:PH} {w:Γ} {p:Pr} (hw:Mem.rep F p w) (_:p.right.length<=1000):ν 161 #[nQ w] F λr F'=>r=nW (wq p)/\F.le F':=by
 obtain ⟨s,n,l,rfl,h1,h2,h3⟩:=hw;have e1:=h1.len;have e3:=h3.len;have no:∀{D:PH},F.le D->¬BT p->(nW mD=nW (wq p)/\F.le D):=λX hn=>⟨by unfold wq;simp [hn],X⟩;have sy:∀{D:PH},F.le D->∀i:Nat,i<p.right.length->∃(a:Addr) (x:Sy),s.qa5=V a/\p.right[i]? =V x/\D.cell (nV a (nX (i:Int)*2))=V (nW x.t)/\D.cell (nV (nV a (nX (i:Int)*2)) 1)=V (U x.i):=λX i hi=>by obtain ⟨a,c,E,C,J⟩:=(h1.le X).get (by decide) (N5 hi);cases J;rw [N4];exact ⟨a,_,E,N5 hi,aE C rfl,aM C rfl⟩
 refine qd5 ?_;unfold Pm;refine (St.start F).newG λb1 G1 D l1 q _ h=> ?_;have q:=h.le _ _ q;have A:=aa l1 h.le;refine ⟨_,ld q rfl,λJ=>no A λg=>J (by rw [e1,g.1];rfl),λJ=>⟨_,ld q rfl,λW=>no A λg=>W g.2.1,λW=>⟨_,ld q rfl,λB=>no A λg=> ?_,λB=>⟨p.sco.arr,rfl,ga q rfl,decide (p.sco=km),λF=>O7 p.sco km F,λH=>no A λg=> ?_,λH=> ?_⟩⟩⟩⟩
 ·rw [e3,g.2.2.1] at B;simp at B
 ·rw [ε g.2.2.2.1] at H;cases H
 have J:p.right.length=3:=by omega
 have H:p.sco=km:=by simpa using H
 have K:p.lay=[]:=Wm (by omega);have a0:p.rank=0:=Classical.not_not.1 W;obtain ⟨a,x0,E,O,c0,_⟩:=sy A 0 (by omega);obtain ⟨_,x1,P,G,c1,d1⟩:=sy A 1 (by omega);obtain ⟨_,x2,N,L,c2,_⟩:=sy A 2 (by omega);rw [E] at P N;cases P;cases N;refine ⟨_,ld q rfl,a,E,by decide,by omega,x0.t,c0,λQ=>⟨_,ld q rfl,a,E,by decide,by omega,x2.t,c2,λR=>⟨_,ld q rfl,a,E,by decide,by omega,x1.t,c1,λM=>⟨_,ld q rfl,a,E,by decide,by omega,x1.i,d1,p.left,ld q rfl,?_,A⟩,λM=>no A λg=> ?_⟩,λR=>no A λg=> ?_⟩,λQ=>no A λg=> ?_⟩
 ·have M:x1.t=mD:=by simpa using M
  unfold wq;congr 1;refine decide_eq_decide.2 ⟨λh=>⟨J,a0,K,H,⟨x0,O,Q⟩,?_,⟨x2,L,R⟩⟩,λg=> ?_⟩
  ·rw [G,<- h,<- M]
  ·have:=g.2.2.2.2.2.1;rw [G] at this;cases this;rfl
 ·have:=g.2.2.2.2.2.1;rw [G] at this;cases this;cases M
 ·obtain ⟨y,B,ht⟩:=g.2.2.2.2.2.2;rw [L] at B;cases B;rw [ht] at R;cases R
 ·obtain ⟨y,B,ht⟩:=g.2.2.2.2.1;rw [O] at B;cases B;rw [ht] at Q;cases Q
def cD (p:Pr) (m:Nat):Pr:=
 if p.right.length=0 then p else
 if m % 8=1 then {p with rank:=1} else
 if m % 8=2 then {p with rank:= -1} else
 if m % 8=3 then {p with brk:=wq p} else
 if m % 8=4 then {p with lay:=[⟨((1+m / 8 % 4:Nat):Int),((m / 8 / 4 % p.right.length:Nat):Int),if m / 8 % 4=0 then 0 else ((p.right.length - 1:Nat):Int)⟩]} else
 if m % 8=5 then {p with sco:={p.sco with o:=nk}} else
 if m % 8=6 then (if (p.right.getD (m / 8 % p.right.length) ⟨mD,0⟩).t=nk then {p with sco:=⟨mD,((m / 8 % p.right.length+1:Nat):Int),((1+m / 8 % 2:Nat):Int),0,0⟩} else p) else
 if m % 8=7 then (if (p.right.getD (m / 8 % p.right.length) ⟨mD,0⟩).t=nk then {p with sco:=⟨mD,0,0,((m / 8 % p.right.length+1:Nat):Int),((1+m / 8 % 7:Nat):Int)⟩} else p) else p
abbrev z13:Γ:= #[ph ⟨#[]⟩,rV .i64 0,.slice I 0 0,.slice I 0 0,.int .i64 0,.bool mD,.int .i64 0,.slice I 0 0,.bool mD,.int .i64 0,.int .i64 0,.int .i64 0,.int .i64 0]
theorem qhY {F:PH} {w:Γ} {p:Pr} {m:Nat} (hw:Mem.rep F p w) (hm:m<256) (hb:p.right.length<=1000):ν 129 #[nQ w,rV .u8 (m:Int)] F λr L=>(∃w',r=nQ w'/\Mem.rep L (cD p m) w')/\F.le L:=by
 obtain ⟨s,n,l,rfl,J,h2,A⟩:=hw;have X:s.len=p.right.length:=J.len;refine qd1 ?_;unfold Pg;refine (St.start F).new λb2 W h=> ?_;refine h.new λb4 F2 h=> ?_;have e8:sj (m:Int) 8=((m % 8:Nat):Int):=by rw [Xv (by omega)];omega
 have ek:i64.wrap (u8.wrap (Int.tdiv (m:Int) 8))=((m / 8:Nat):Int):=by rw [Zc (by omega),show (m:Int) / 8=((m / 8:Nat):Int) by omega,DE (by omega),aJ (by omega)]
 have K:∀a b:Nat,sj (a:Int) (b:Int)=((a % b:Nat):Int):=λa b=>by rw [Xv (by omega)];exact (Int.natCast_emod _ _).symm
 have fin:∀{G W:PH} {p':Pr} {R:Sl},F.le G->p'=cD p m->p'.right=p.right->p'.cond=p.cond->RL G R p'.lay->St G W [pt b4 (Y z13 64),pt b2 (Y (p'.arr s n R) 64)]->dp b2 b4 (λr L=>(∃w',r=nQ w'/\Mem.rep L (cD p m) w')/\F.le L) W:=λ{G W p' R} hl hp hr O a1 h=>by unfold dp;refine ⟨_,rfl,h.whole1,?_⟩;refine h.put0 (w':=p'.arr s n R) rfl rfl (by simp [ak,nI]) λC h=> ?_;have lF:=aa hl h.le;exact ⟨_,rfl,h.whole0,⟨_,rfl,hp▸⟨s,n,R,rfl,by rw [hr];exact J.le lF,by rw [O];exact h2.le lF,a1.le h.le⟩⟩,lF⟩
 refine ⟨_,h.ld1 rfl,λh0=> ?_,λh0=> ?_⟩
 ·have e:cD p m=p:=by unfold cD;rw [Χ (by omega)]
  refine ⟨_,rfl,h.whole1,?_⟩;refine h.put0 (w':=p.arr s n l) rfl rfl (by simp [ak,nI]) λC h=> ?_;exact ⟨_,rfl,h.whole0,⟨_,rfl,by rw [e];exact ⟨s,n,l,rfl,J.le h.le,h2.le h.le,A.le h.le⟩⟩,h.le⟩
 have g:p.right.length≠0:=λh=>h0 (by rw [X,h];rfl);have a2:s.len≠0:=by omega
 rw [e8,ek];refine ⟨λc1=> ?_,λc1=>⟨λc2=> ?_,λc2=>⟨λc3=> ?_,λc3=>⟨λc4=> ?_,λc4=>⟨λc5=> ?_,λc5=>⟨λc6=> ?_,λc6=>⟨λc7=> ?_,λc7=> ?_⟩⟩⟩⟩⟩⟩⟩
 ·refine h.set1 (w':=Pr.arr {p with rank:=1} s n l) (vr rfl) rfl λC h=> ?_;exact fin (p':={p with rank:=1}) (au _) (by unfold cD;rw [Υ g,Χ (by omega)]) rfl rfl A h
 ·refine h.set1 (w':=Pr.arr {p with rank:= -1} s n l) (vr rfl) rfl λC h=> ?_;exact fin (p':={p with rank:= -1}) (au _) (by unfold cD;rw [Υ g,Υ (by omega),Χ (by omega)]) rfl rfl A h
 ·refine h.set1 (w':=Pr.arr {p with brk:=nk} s n l) (vr rfl) rfl λC h=> ?_;refine ⟨_,rfl,h.whole1,?_⟩;refine h.runv (qhJ (p:={p with brk:=nk}) ⟨s,n,l,rfl,J,h2,A⟩ hb) λG F4 l4 h=> ?_;refine ⟨_,rfl,?_⟩;refine h.set1 (w':=Pr.arr {p with brk:=wq p} s n l) (vr rfl) rfl λF5 h=> ?_;exact fin (p':={p with brk:=wq p}) l4 (by unfold cD;rw [Υ g,Υ (by omega),Υ (by omega),Χ (by omega)]) rfl rfl (A.le l4) h
 ·have k4:sj ((m / 8:Nat):Int) 4=((m / 8 % 4:Nat):Int):=K _ 4;have d4:i64.wrap (Int.tdiv ((m / 8:Nat):Int) 4)=((m / 8 / 4:Nat):Int):=by rw [Zc (by omega),aJ (by omega)];omega
  have Q:i64.wrap ((1:Int)+((m / 8 % 4:Nat):Int))=((1+m / 8 % 4:Nat):Int):=by rw [aJ (by omega)];omega
  have M:i64.wrap ((s.len:Int) - 1)=((p.right.length - 1:Nat):Int):=by rw [aJ (by omega)];omega
  rw [k4,d4,K,Q,M,X];refine ⟨by omega,rfl,?_⟩;refine h.new λa0 C h=> ?_;refine h.set2 (w':=Pr.arr p s n (t7 (V (oB a0 0 I)) 1 1)) (vr rfl) rfl λF4 h=> ?_;refine ⟨λhk=> ?_,λhk=> ?_⟩
  ·refine ⟨_,h.ld2 rfl,_,rfl,by decide,(by show (0:Int)<1;decide),?_⟩;simp only [aI];refine h.set0 (i:=2) (w':=Cn.arr ⟨((1+m / 8 % 4:Nat):Int),((m / 8 / 4 % p.right.length:Nat):Int),0⟩) (vr rfl) rfl λF5 h=> ?_;obtain ⟨G,l5,⟨H,hA,hH⟩,h⟩:=h.pin;exact fin (p':={p with lay:=[⟨((1+m / 8 % 4:Nat):Int),((m / 8 / 4 % p.right.length:Nat):Int),0⟩]}) l5 (by unfold cD;rw [Υ g,Υ (by omega),Υ (by omega),Υ (by omega),Χ (by omega),Χ (by omega)]) rfl rfl (B0 (hH _ _ hA)) h
  ·obtain ⟨G,l5,⟨H,hA,hH⟩,h⟩:=h.pin;exact fin (p':={p with lay:=[⟨((1+m / 8 % 4:Nat):Int),((m / 8 / 4 % p.right.length:Nat):Int),((p.right.length - 1:Nat):Int)⟩]}) l5 (by unfold cD;rw [Υ g,Υ (by omega),Υ (by omega),Υ (by omega),Χ (by omega),Υ (by omega)]) rfl rfl (B0 (x:=⟨((1+m / 8 % 4:Nat):Int),((m / 8 / 4 % p.right.length:Nat):Int),((p.right.length - 1:Nat):Int)⟩) (hH _ _ hA)) h
 ·refine h.set1 (w':=Pr.arr {p with sco:={p.sco with o:=nk}} s n l) (vr rfl) rfl λC h=> ?_;exact fin (p':={p with sco:={p.sco with o:=nk}}) (au _) (by unfold cD;rw [Υ g,Υ (by omega),Υ (by omega),Υ (by omega),Υ (by omega),Χ (by omega)]) rfl rfl A h
 ·refine ⟨_,h.ld1 rfl,by omega,?_⟩;have E:m / 8 % p.right.length<p.right.length:=VU _ (by omega);have N:=N5 E;obtain ⟨a,c,ha,B,O⟩:=(J.le h.le).get (by decide) N;cases O;rw [K,X];have kw:((p.right.length:Nat):Int)≠0:=by omega
  have P:p.right.getD (m / 8 % p.right.length) ⟨mD,0⟩=p.right[m / 8 % p.right.length]:=by rw [QX,N];rfl
  have k2:sj ((m / 8:Nat):Int) 2=((m / 8 % 2:Nat):Int):=K _ 2;have Q:i64.wrap ((1:Int)+((m / 8 % 2:Nat):Int))=((1+m / 8 % 2:Nat):Int):=by rw [aJ (by omega)];omega
  have M:i64.wrap (((m / 8 % p.right.length:Nat):Int)+1)=((m / 8 % p.right.length+1:Nat):Int):=by rw [aJ (by omega)];omega
  rw [k2,Q,M];refine ⟨a,ha,by omega,by omega,_,by rw [N4];exact aE B rfl,λD=>⟨kw,?_⟩,λD=> ?_⟩
  ·refine h.putR1 (w':=Pr.arr {p with sco:=⟨mD,((m / 8 % p.right.length+1:Nat):Int),((1+m / 8 % 2:Nat):Int),0,0⟩} s n l) rfl (by simp [ak]) (by show 8+5<=13;decide) rfl λC h=> ?_;exact fin (p':={p with sco:=⟨mD,((m / 8 % p.right.length+1:Nat):Int),((1+m / 8 % 2:Nat):Int),0,0⟩}) (au _) (by unfold cD;rw [Υ g,Υ (by omega),Υ (by omega),Υ (by omega),Υ (by omega),Υ (by omega),Χ (by omega),Χ (by rw [P];exact D)]) rfl rfl A h
  ·exact fin (p':=p) (au _) (by unfold cD;rw [Υ g,Υ (by omega),Υ (by omega),Υ (by omega),Υ (by omega),Υ (by omega),Χ (by omega),Υ (by rw [P,D];decide)]) rfl rfl A h
 ·refine ⟨_,h.ld1 rfl,by omega,?_⟩;have E:m / 8 % p.right.length<p.right.length:=VU _ (by omega);have N:=N5 E;obtain ⟨a,c,ha,B,O⟩:=(J.le h.le).get (by decide) N;cases O;rw [K,X];have kw:((p.right.length:Nat):Int)≠0:=by omega
  have P:p.right.getD (m / 8 % p.right.length) ⟨mD,0⟩=p.right[m / 8 % p.right.length]:=by rw [QX,N];rfl
  have k7:sj ((m / 8:Nat):Int) 7=((m / 8 % 7:Nat):Int):=K _ 7;have Q:i64.wrap ((1:Int)+((m / 8 % 7:Nat):Int))=((1+m / 8 % 7:Nat):Int):=by rw [aJ (by omega)];omega
  have M:i64.wrap (((m / 8 % p.right.length:Nat):Int)+1)=((m / 8 % p.right.length+1:Nat):Int):=by rw [aJ (by omega)];omega
  rw [k7,Q,M];refine ⟨a,ha,by omega,by omega,_,by rw [N4];exact aE B rfl,λD=>⟨kw,?_⟩,λD=> ?_⟩
  ·refine h.putR1 (w':=Pr.arr {p with sco:=⟨mD,0,0,((m / 8 % p.right.length+1:Nat):Int),((1+m / 8 % 7:Nat):Int)⟩} s n l) rfl (by simp [ak]) (by show 8+5<=13;decide) rfl λC h=> ?_;exact fin (p':={p with sco:=⟨mD,0,0,((m / 8 % p.right.length+1:Nat):Int),((1+m / 8 % 7:Nat):Int)⟩}) (au _) (by unfold cD;rw [Υ g,Υ (by omega),Υ (by omega),Υ (by omega),Υ (by omega),Υ (by omega),Υ (by omega),Χ (by omega),Χ (by rw [P];exact D)]) rfl rfl A h
  ·exact fin (p':=p) (au _) (by unfold cD;rw [Υ g,Υ (by omega),Υ (by omega),Υ (by omega),Υ (by omega),Υ (by omega),Υ (by omega),Χ (by omega),Υ (by rw [P,D];decide)]) rfl rfl A h
 ·exact fin (p':=p) (au _) (by unfold cD;rw [Υ g,Υ (by omega),Υ (by omega),Υ (by omega),Υ (by omega),Υ (by omega),Υ (by omega),Υ (by omega)]) rfl rfl A h
theorem gP {b e n:Nat} {H:PH} (h:H b=V (Y #[] e)):own (t7 (V (oB b 0 I)) 0 0) e n [] H:=.inr ⟨b,#[],rfl,h,by simp,ru _,by simp,by simp⟩
section
variable {α:Type} [Mem α] {G F:PH} {As:List (Ψ)} {t e bytes n:Nat} {z:ξ} {x:List α} {y:α} {sx:Sl} {w:Γ}
theorem St.grow2 (T:SlT t e (Mem.n α) bytes z) {vs:List Γ} {s:Sl} (h:St G F (own s e (Mem.n α) (tZ vs)::As)) (P:bS G x vs) (E:Mem.rep G y w) {r:Sl} (J:RdS G r (Mem.n α) w.toList) (R:s.len=x.length) (N:r.len=1) (W:x.length<=1000000) {C:Sl->Ψ}
  (k:∀D A H,G.le A->RL A D (x++[y])->St A H As->C D H):
  aG prog (Builtin.append_ #[t,t] t #[nI s,nI r]) F λv F=>∃s2:Sl,v=nI s2/\C s2 F:=by
 refine h.app0 T (J.le h.le) (Mem.st E) (by omega) λs2 F2 L O=> ?_;refine L.pinOwn (K:=C s2) λM g B Q=>k s2 M F2 g ⟨vs++[w],(P.le g).append (.cons (Mem.le g E) .nil),?_⟩ Q;rw [ba,cI];exact B
theorem Bw {b:Nat} (q:G b=V (Y w e)) (g:w.size=n):RdS G (t7 (V (oB b 0 I)) 1 1) n w.toList:=RdS.new q (zh (by rw [zQ,g,Wy];exact ru _)) (by rw [zQ,g,Wy]) (ru _)
theorem St.grow (T:SlT t e (Mem.n α) bytes z) (h:St G F As) (X:RL G sx x) (O:Mem.rep G y w) (P:x.length<=1000000) (hn:Mem.n α=n) {Q:Ψ} (hq:∀E D,St E D As->Q D) {C:Sl->Ψ}
    (k:∀K E D,G.le E->RL E K (x++[y])->St E D As->C K D):
    ((∀B,F B=I->xJ (F.set B (Y #[] e)) λF=>
      ((aG prog (Builtin.append_ #[t,t] t #[nI (t7 (V (oB B 0 I)) 0 0),nI sx]) F λv F=>∃s1:Sl,v=nI s1/\Q F/\w.size=n/\∀g,F g=I->xJ (F.set g (Y w e)) λF=>
        aG prog (Builtin.append_ #[t,t] t #[nI s1,nI (t7 (V (oB g 0 I)) 1 1)]) F λv F=>∃s2:Sl,v=nI s2/\C s2 F)/\
       (w.size=n/\∀g,F g=I->xJ (F.set g (Y w e)) λF=>
        aG prog (Builtin.append_ #[t,t] t #[nI (t7 (V (oB B 0 I)) 0 0),nI sx]) F λv F=>∃s1:Sl,v=nI s1/\
        aG prog (Builtin.append_ #[t,t] t #[nI s1,nI (t7 (V (oB g 0 I)) 1 1)]) F λv F=>∃s2:Sl,v=nI s2/\C s2 F)))/\
     (w.size=n/\∀g,F g=I->xJ (F.set g (Y w e)) λF=>∀B,F B=I->xJ (F.set B (Y #[] e)) λF=>
        aG prog (Builtin.append_ #[t,t] t #[nI (t7 (V (oB B 0 I)) 0 0),nI sx]) F λv F=>∃s1:Sl,v=nI s1/\
        aG prog (Builtin.append_ #[t,t] t #[nI s1,nI (t7 (V (oB g 0 I)) 1 1)]) F λv F=>∃s2:Sl,v=nI s2/\C s2 F)):=by
  subst hn;have a0:=X.len T.hn;obtain ⟨vs,M,L⟩:=X;have r:=Mem.len O;have R:∀s1:Sl,s1.len=(t7 (V (oB 0 0 I)) 0 0).len+sx.len->s1.len=x.length:=λs1 h=>by rw [h];show 0+sx.len=_;omega
  refine ⟨?_,?_⟩
  · refine h.new λB F1 h=> ?_
    have h:=h.imp (A':=own (t7 (V (oB B 0 I)) 0 0) e (Mem.n α) []) 0 rfl λH _ W=>gP W;refine ⟨?_,r,?_⟩
    · refine St.app0 T h (L.le h.le) M.st (by show 0+sx.len<=_;omega) λs1 F2 h J=>⟨hq _ _ h.tail,r,?_⟩
      rw [zB] at h;refine h.newG λg G2 F3 A q _ h=> ?_;exact St.grow2 T h (M.le A) (Mem.le A O) (Bw q r) (R s1 J) rfl P λK E D N=>k K E D (aa A N)
    · refine h.newG λg G2 F3 A q _ h=> ?_
      refine St.app0 T h ((L.le A).le h.le) M.st (by show 0+sx.len<=_;omega) λs1 F2 h J=> ?_;rw [zB] at h;exact St.grow2 T h (M.le A) (Mem.le A O) (Bw q r) (R s1 J) rfl P λK E D N=>k K E D (aa A N)
  · refine ⟨r,?_⟩
    refine h.newG λg G2 F3 A q _ h=> ?_;refine h.new λB F1 h=> ?_;have h:=h.imp (A':=own (t7 (V (oB B 0 I)) 0 0) e (Mem.n α) []) 0 rfl λH _ W=>gP W;refine St.app0 T h ((L.le A).le h.le) M.st (by show 0+sx.len<=_;omega) λs1 F2 h J=> ?_;rw [zB] at h;exact St.grow2 T h (M.le A) (Mem.le A O) (Bw q r) (R s1 J) rfl P λK E D N=>k K E D (aa A N)
end
theorem ma {F:PH} {P:Program} {b n:Nat} {e:TypeId} (q:F b=V (Y #[vB n] e)):qX P (Conv.bytesToString (nI (t7 (V (oB b 0 I)) 1 1))) F (ph ⟨#[UInt8.ofNat n]⟩):=by
 have h:RdS F (t7 (V (oB b 0 I)) 1 1) 1 [vB n]:=RdS.new q rfl rfl (ru _);unfold Conv.bytesToString nI;simp only [am];refine ⟨#[vB n],?_,?_⟩
 ·have g:=h.row (a:=oB b 0 I) rfl 0 #[vB n] (by simp);rw [show (oB b 0 I).add 0=oB b 0 I from rfl] at g;exact fc (P:=P) g
 ·refine ⟨ByteArray.empty.push (UInt8.ofNat n),?_,?_⟩
  ·rw [<- Array.forIn_toList];simp []
  ·show (ph _)=_;simp [ByteArray.empty,ByteArray.emptyWithCapacity,ByteArray.push];rfl
structure Ln where
 left:Nat
 right:Δ
 cond:Nat
 mark:Nat
instance:Mem Ln where
 n:=4
 rep F x c:=∃r:Sl,c= #[vB x.left,r.v,vB x.cond,vB x.mark]/\RdS F r 1 (x.right.map vB)/\x.left<256/\x.cond<256/\x.mark<256/\∀y∈x.right,y<256
 len h:=by obtain ⟨r,rfl,_⟩:=h;rfl
 le hl h:=by obtain ⟨r,h1,h2,h3⟩:=h;exact ⟨r,h1,h2.le hl,h3⟩
 st h:=by obtain ⟨r,rfl,_⟩:=h;simp [ak,nI]
theorem kY (g:ο) (left:Int) {s:Sl} {F:PH}:ν 53 #[ph g,U left,s.v] F λr A=>(∃n,r=nQ ((bA g left []).arr s n pm)/\RL A n dy.1)/\F.le A:=by refine Wa ?_;unfold Sn;refine (St.start F).new λb E h=> ?_;refine h.run (gW _) λ_ G F2 D l h=> ?_;obtain ⟨w,rfl,C⟩:=D;obtain ⟨n,rfl,B⟩:=C.out;refine ⟨_,rfl,rfl,?_⟩;refine h.put0 (w':=(bA g left []).arr s n pm) rfl rfl (by simp [ak,nI]) λF2 h=> ?_;exact ⟨_,rfl,h.whole0,⟨n,rfl,B.le h.le⟩,aa l h.le⟩
def mb (nn b:Nat):Sy:=if b % 14<9 then ⟨nk,((b % 14:Nat):Int)⟩ else ⟨mD,(((b % 14 - 9) % nn:Nat):Int)⟩
def aP (nn:Nat) (x:Ln):List Sy:=(x.right.take 4).map (mb nn)
def du (l:List Sy):Nat:=(l.filter (·.t)).length
def cT (left:Nat) (l:List Sy):Bool:=l.all λs=>s.t || decide ((left:Int)<s.i)
def bh (k:Nat):ο:=⟨#[112]⟩++⟨#[UInt8.ofNat (97+k)]⟩
def jc (g:Gr) (x:Ln):Pr:={bA (bh g.qa0.length) ((x.left % g.qa1.length:Nat):Int) (aP g.qa1.length x) with cond:=pj (jb x.cond g.qa4.length)}
def lineG (g:Gr) (x:Ln) (cj:Bool):Gr:=
 if du (aP g.qa1.length x)=0/\(cj=nk\/cT (x.left % g.qa1.length) (aP g.qa1.length x)=mD) then g
 else {g with qa0:=g.qa0++[cD (jc g x) x.mark]}
theorem iT (a b:Nat):sj (a:Int) (b:Int)=((a % b:Nat):Int):=by rw [Xv (by omega)];exact (Int.natCast_emod _ _).symm
theorem oH (l:List Sy) (s:Sy):du (l++[s])=du l+if s.t=nk then 1 else 0:=by unfold du;rw [List.filter_append,tT];congr 1;cases h:s.t<;>simp [h]
theorem me (left:Nat) (l:List Sy) (s:Sy):cT left (l++[s])=(cT left l && (s.t || decide ((left:Int)<s.i))):=by simp [cT]
theorem Gb {G:PH} (l:List Sy):bS G l (l.map Sy.arr):=by
 induction l with
 |nil=>exact .nil
 |cons x l ih=>exact .cons rfl ih
structure LK (F G:PH) (b4:Nat) (g:Gr) (x:Ln) (c n t s sp l f rx n0:Sl):Prop where
 lF:F.le G
 q4:G b4=V (Y #[vB x.left,rx.v,vB x.cond,vB x.mark] 191)
 gs:GS G g c n t s sp l f
 rr:RdS G rx 1 (x.right.map vB)
 n0:RL G n0 dy.1
theorem LK.le {F G C:PH} {A:Nat} {g:Gr} {x:Ln} {c n t s sp l f w B:Sl} (h:LK F G A g x c n t s sp l f w B) (r:G.le C):LK F C A g x c n t s sp l f w B:=
 ⟨aa h.lF r,r _ _ h.q4,h.gs.le r,h.rr.le r,h.n0.le r⟩
section
variable {F G F1:PH} {b3 b4 b6 b8:Nat} {g:Gr} {x:Ln} {c n t s sp l f rx n0 sr:Sl} {cj:Bool}
abbrev LR (F:PH) (g':Gr):VR:=λr F'=>(∃w,r=nQ w/\GV F' w g')/\F.le F'
theorem MB {g':Gr} {sp':Sl} (hF:F.le G) (r:GS G g' c n t s sp' l f) (st:St G F1 [pt b6 (Y zG 39),pt b3 (Y (g'.arr c n t s sp' l f) 39)]):sK b3 b6 (LR F g') F1:=by unfold sK;refine ⟨_,rfl,st.whole1,?_⟩;refine st.put0 (w':=g'.arr c n t s sp' l f) rfl rfl (by simp [ak,nI]) λw h=> ?_;exact ⟨_,rfl,h.whole0,⟨_,rfl,c,n,t,s,sp',l,f,rfl,r.le h.le⟩,aa hF h.le⟩
theorem IM (K:LK F G b4 g x c n t s sp l f rx n0) (L:g.qa4.length<=6) (hp:g.qa0.length<=1000) (P:x.cond<256) (O:x.mark<256) (h:RL G sr (aP g.qa1.length x))
  (st:St G F1 [pt b8 (Y ((bA (bh g.qa0.length) ((x.left % g.qa1.length:Nat):Int) []).arr sr n0 pm) 64),pt b6 (Y zG 39),pt b3 (Y (g.arr c n t s sp l f) 39)]):
  gC b3 b4 b6 (V (oB b8 0 I)) mD (LR F {g with qa0:=g.qa0++[cD (jc g x) x.mark]}) F1:=by
 obtain ⟨_,_,T⟩:=Sm;unfold gC;refine ⟨λN=>(by cases N),λ_=> ?_⟩;have J:=K.gs.c.len;refine ⟨_,ld (st.le _ _ K.q4) rfl,_,st.ld2 rfl,?_⟩;dsimp only;rw [J];refine st.run (yS x.cond g.qa4.length P L _) λ_ G2 F2 B D st=> ?_;obtain ⟨⟨_,rfl,r⟩,-⟩:=B;obtain ⟨m,rfl,E⟩:=r.out;have K:=K.le D;have h:=h.le D;refine ⟨_,rfl,_,rfl,?_⟩;simp only [aI];refine st.putR0 (o:=3) (w':=(jc g x).arr sr m pm) rfl (by simp [ak,nI]) (by show 3+2<=13;decide) rfl λX st=> ?_;refine ⟨_,rfl,st.whole0,_,ld (st.le _ _ K.q4) rfl,?_⟩;refine st.run (qhY (p:=jc g x) (m:=x.mark) ⟨sr,m,pm,rfl,h,E,.nil _⟩ O (by show (aP _ _).length<=1000;unfold aP;rw [ub,z9];omega)) λ_ G3 F4 B M st=> ?_;obtain ⟨w,rfl,r⟩:=B;have K:=K.le M;refine ⟨w,rfl,?_⟩;refine st.put0 (w':=w) (Mem.len r) rfl (Mem.st r) λF5 st=> ?_;refine ⟨_,st.ld2 rfl,w,Mem.len r,st.whole0,?_⟩;refine St.grow T st K.gs.p r (by omega) rfl (λQ H st=>st.whole0) λC Q H R A st=> ?_;have K:=K.le R;refine st.set2 (w':=Gr.arr {g with qa0:=g.qa0++[cD (jc g x) x.mark]} c n t s C l f) (vr rfl) rfl λW st=> ?_;exact MB (g':={g with qa0:=g.qa0++[cD (jc g x) x.mark]}) (sp':=C) K.lF ⟨K.gs.c,K.gs.n,K.gs.t,K.gs.s,A,K.gs.l,K.gs.f⟩ st.tail
theorem IN {w:Θ} (K:LK F G b4 g x c n t s sp l f rx n0) (st:St G F1 [pt b6 (Y zG 39),pt b3 (Y (g.arr c n t s sp l f) 39)]):gC b3 b4 b6 w nk (LR F g) F1:=by unfold gC;refine ⟨λ_=> ?_,λr=>(by cases r)⟩;refine ⟨_,rfl,st.whole1,?_⟩;refine st.put0 (w':=g.arr c n t s sp l f) rfl rfl (by simp [ak,nI]) λA h=> ?_;exact ⟨_,rfl,h.whole0,⟨_,rfl,c,n,t,s,sp,l,f,rfl,K.gs.le h.le⟩,aa K.lF h.le⟩
theorem MC (K:LK F G b4 g x c n t s sp l f rx n0) (J:g.qa4.length<=6) (L:g.qa0.length<=1000) (O:x.cond<256) (N:x.mark<256) {E:Int} {h:Bool} (B:E=((du (aP g.qa1.length x):Nat):Int)) (A:h=cT (x.left % g.qa1.length) (aP g.qa1.length x))
  (st:St G F1 [pt b8 (Y ((bA (bh g.qa0.length) ((x.left % g.qa1.length:Nat):Int) []).arr sr n0 pm) 64),own sr 130 2 (tZ ((aP g.qa1.length x).map Sy.arr)),pt b6 (Y zG 39),pt b3 (Y (g.arr c n t s sp l f) 39)]):
  sL cj b3 b4 b6 (V (oB b8 0 I)) E h (LR F (lineG g x cj)) F1:=by
 unfold sL;have bad:du (aP g.qa1.length x)=0/\(cj=nk\/cT (x.left % g.qa1.length) (aP g.qa1.length x)=mD)->gC b3 b4 b6 (V (oB b8 0 I)) nk (LR F (lineG g x cj)) F1:=λw=>by
  have e:lineG g x cj=g:=by unfold lineG;rw [Χ w]
  rw [e];exact IN K st.tail.tail
 have r:¬(du (aP g.qa1.length x)=0/\(cj=nk\/cT (x.left % g.qa1.length) (aP g.qa1.length x)=mD))->gC b3 b4 b6 (V (oB b8 0 I)) mD (LR F (lineG g x cj)) F1:=λw=>by
  have e:lineG g x cj={g with qa0:=g.qa0++[cD (jc g x) x.mark]}:=by unfold lineG;rw [Υ w]
  rw [e];refine st.front1.pinOwn (K:=λF1=>gC b3 b4 b6 (V (oB b8 0 I)) mD (LR F {g with qa0:=g.qa0++[cD (jc g x) x.mark]}) F1) λP M D st=> ?_;exact IM (K.le M) J L O N ⟨_,Gb _,D⟩ st
 refine ⟨λH=>⟨λC=>bad ⟨by omega,.inl C⟩,λC=> ?_⟩,λH=>r λw=>H (by rw [B,w.1];rfl)⟩;cases hl':h with
 |true=>refine r λw=> ?_;rw [<- A,hl',C] at w;simp at w
 |false=>exact bad ⟨by omega,.inr (by rw [<- A,hl'])⟩
end
theorem yU (l:List Sy) (y:Sy):tZ (l.map Sy.arr)++y.arr.toList=tZ ((l++[y]).map Sy.arr):=by rw [yW,ba,xA,List.map_nil,cI]
section
variable {F G F1:PH} {b3 b4 b6 b8:Nat} {g:Gr} {x:Ln} {c n t s sp l f rx n0 sr:Sl} {cj:Bool}
theorem MD (K:LK F G b4 g x c n t s sp l f rx n0) (hn:g.qa4.length<=6) (hp:g.qa0.length<=1000) (h4:x.cond<256) (h5:x.mark<256) (h6:∀y∈x.right,y<256) (a3:g.qa1.length≠0) (_:g.qa1.length<=1000000)
  (st:St G F1 [pt b8 (Y ((bA (bh g.qa0.length) ((x.left % g.qa1.length:Nat):Int) []).arr pm n0 pm) 64),pt b6 (Y zG 39),pt b3 (Y (g.arr c n t s sp l f) 39)]):
  nY cj b3 b4 b6 s (V (oB b8 0 I)) (LR F (lineG g x cj)) F1:=by
 obtain ⟨_,_,T⟩:=qgw;have es:=K.gs.s.len;have er:=K.rr.len;rw [ub,xF] at er;unfold nY;have hL:(aP g.qa1.length x).length=min 4 x.right.length:=by unfold aP;rw [ub,z9]
 refine ⟨λm tk la i R=>∃(k:Nat) (G':PH) (sr:Sl),i=k/\k<=(aP g.qa1.length x).length/\m=4 - k/\tk=((du ((aP g.qa1.length x).take k):Nat):Int)/\la=cT (x.left % g.qa1.length) ((aP g.qa1.length x).take k)/\LK F G' b4 g x c n t s sp l f rx n0/\sr.len=k/\
  St G' R [pt b8 (Y ((bA (bh g.qa0.length) ((x.left % g.qa1.length:Nat):Int) []).arr sr n0 pm) 64),own sr 130 2 (tZ (((aP g.qa1.length x).take k).map Sy.arr)),pt b6 (Y zG 39),pt b3 (Y (g.arr c n t s sp l f) 39)],4,
  ⟨0,G,pm,rfl,yA _,rfl,rfl,rfl,K,rfl,(st.nilOwn 130 2).swap⟩,?_⟩
 rintro m tk la i R ⟨k,G',sr,rfl,hk,rfl,rfl,rfl,K,a5,st⟩;unfold Jr;have A:k=(aP g.qa1.length x).length->sL cj b3 b4 b6 (V (oB b8 0 I)) ((du ((aP g.qa1.length x).take k):Nat):Int) (cT (x.left % g.qa1.length) ((aP g.qa1.length x).take k)) (LR F (lineG g x cj)) R:=λe=>by rw [e,wB] at st ⊢;exact MC K hn hp h4 h5 rfl rfl st
 refine ⟨_,ld (st.le _ _ K.q4) rfl,λL=>⟨λW=> ?_,λW=>A (by omega)⟩,λL=>A (by omega)⟩;have C:k<x.right.length:=by omega
 have a6:k<(aP g.qa1.length x).length:=by omega
 obtain ⟨ab,ao,E,_⟩:=K.rr.cells (by omega);have w:=(K.rr.le st.le).cell E (i:=k) (by rw [ub];exact C);rw [Yn] at w;have a1:x.right[k]<256:=h6 _ (Vc C);have M:(aP g.qa1.length x)[k]? =V (mb g.qa1.length x.right[k]):=by unfold aP;rw [yw,YF (by omega),N5 C];rfl
 have h:(aP g.qa1.length x).take (k+1)=(aP g.qa1.length x).take k++[mb g.qa1.length x.right[k]]:=by rw [Wx,M];rfl
 generalize x.right[k]=y at*;have ey:sj (i64.wrap (y:Int)) (14:Int)=((y % 14:Nat):Int):=by rw [aJ (by omega)];exact iT y 14
 refine ⟨_,ld (st.le _ _ K.q4) rfl,_,E,by omega,L,(y:Int),by rw [N4,xF];exact w,?_⟩;dsimp only;rw [ey];have J:i64.wrap ((k:Int)+1)=((k+1:Nat):Int):=aC (n:=4) (by omega) (by decide);have a2:du ((aP g.qa1.length x).take k)<=4:=WA (List.length_filter_le _ _) (by rw [z9];omega);refine ⟨λh9=> ?_,λh9=> ?_⟩
 ·have r:mb g.qa1.length y=⟨nk,((y % 14:Nat):Int)⟩:=by unfold mb;rw [Χ (by omega)]
  refine ⟨_,rfl,?_⟩;simp only [aI];refine ⟨sr,st.ld0 rfl,?_⟩;refine st.runv (BY _ _) λG2 F2 P st=> ?_;refine ⟨_,rfl,st.ld0 rfl,rfl,?_⟩;refine st.push1 T (c:=Sy.arr ⟨nk,((y % 14:Nat):Int)⟩) rfl (by simp [ak]) (by omega) λD Q F3 O st X=> ?_;rw [yU,<- r,<- h] at st;refine st.set0 (w':=(bA (bh g.qa0.length) ((x.left % g.qa1.length:Nat):Int) []).arr D n0 pm) (vr rfl) rfl λF4 st=> ?_;unfold sM;rw [J];refine ⟨4 - (k+1),by omega,k+1,Q,D,rfl,by omega,rfl,?_,?_,K.le (aa P O),by omega,st⟩
  ·rw [h,oH,r,aJ (by omega)];rfl
  ·rw [h,me,r];simp
 ·have a4:y % 14 - 9<5:=by omega
  have ez:sj (i64.wrap (((y % 14:Nat):Int) - (9:Int))) (s.len:Int)=(((y % 14 - 9) % g.qa1.length:Nat):Int):=by rw [es,show ((y % 14:Nat):Int) - 9=((y % 14 - 9:Nat):Int) by omega,aJ (by omega),iT]
  have r:mb g.qa1.length y=⟨mD,(((y % 14 - 9) % g.qa1.length:Nat):Int)⟩:=by unfold mb;rw [Υ (by omega)]
  refine ⟨_,rfl,?_⟩;simp only [aI];rw [ez];refine ⟨sr,st.ld0 rfl,by omega,?_⟩;refine st.runv (JM _ _) λG2 F2 P st=> ?_;refine ⟨_,rfl,st.ld0 rfl,rfl,?_⟩;refine st.push1 T (c:=Sy.arr ⟨mD,(((y % 14 - 9) % g.qa1.length:Nat):Int)⟩) rfl (by simp [ak]) (by omega) λD Q F3 O st X=> ?_;rw [yU,<- r,<- h] at st;refine st.set0 (w':=(bA (bh g.qa0.length) ((x.left % g.qa1.length:Nat):Int) []).arr D n0 pm) (vr rfl) rfl λF4 st=> ?_;have H:((du ((aP g.qa1.length x).take k):Nat):Int)=((du ((aP g.qa1.length x).take (k+1)):Nat):Int):=by rw [h,oH,r];rfl
  have N:cT (x.left % g.qa1.length) ((aP g.qa1.length x).take (k+1))=(cT (x.left % g.qa1.length) ((aP g.qa1.length x).take k) && decide (((x.left % g.qa1.length:Nat):Int)<(((y % 14 - 9) % g.qa1.length:Nat):Int))):=by rw [h,me,r];simp
  unfold sM;rw [J];refine ⟨λB=>⟨by omega,((x.left % g.qa1.length:Nat):Int),st.ld0 rfl,4 - (k+1),by omega,k+1,Q,D,rfl,by omega,rfl,H,?_,K.le (aa P O),by omega,st⟩,λB=>⟨4 - (k+1),by omega,k+1,Q,D,rfl,by omega,rfl,H,?_,K.le (aa P O),by omega,st⟩⟩
  ·rw [N,B,Wz]
  ·rw [N,B,W6]
end
theorem Gc {F:PH} {w v:Γ} {g:Gr} {x:Ln} {cj:Bool} (hg:GV F w g) (hx:Mem.rep F x v) (hn:g.qa4.length<=6) (hp:g.qa0.length<=150) (O:g.qa1.length≠0) (K:g.qa1.length<=1000000):
  ν 94 #[nQ w,nQ v,nW cj] F (LR F (lineG g x cj)):=by
 obtain ⟨c,n,t,s,W,l,f,rfl,N⟩:=hg;obtain ⟨rx,rfl,hr,h3,h4,h5,h6⟩:=hx;have es:=N.s.len;have ep:=N.p.len;refine aab ?_;unfold Wi;refine (St.start F).new λb3 F1 st=> ?_;refine st.newG λb4 G1 F2 P q4 _ st=> ?_;refine st.new λX F3 st=> ?_;have ec:u8.wrap (i64.wrap ((97:Int)+(W.len:Int)))=((97+g.qa0.length:Nat):Int):=by rw [ep,show (97:Int)+((g.qa0.length:Nat):Int)=((97+g.qa0.length:Nat):Int) by omega,aJ (by omega),DE (by omega)]
 have el:sj (i64.wrap (x.left:Int)) (s.len:Int)=((x.left % g.qa1.length:Nat):Int):=by rw [es,aJ (by omega),iT]
 refine ⟨_,st.ld1 rfl,_,st.ld1 rfl,_,ld (st.le _ _ q4) rfl,by omega,?_⟩;rw [ec,el];have fin:∀{G M:PH} {E:Nat} {B:Sl},G1.le G->RL G B dy.1->St G M [pt E (Y ((bA (bh g.qa0.length) ((x.left % g.qa1.length:Nat):Int) []).arr pm B pm) 64),pt X (Y zG 39),pt b3 (Y (g.arr c n t s W l f) 39)]->
   nY cj b3 b4 X s (V (oB E 0 I)) (LR F (lineG g x cj)) M:=λ{G M E B} J D st=>
  MD ⟨aa P J,J _ _ q4,N.le (aa P J),hr.le (aa P J),D⟩ hn (by omega) h4 h5 h6 O K st
 have H:(ByteArray.mk #[112]).size+(ByteArray.mk #[UInt8.ofNat (97+g.qa0.length)]).size<=9223372036854775807:=by show 1+1<=9223372036854775807;decide
 refine ⟨?_,?_⟩
 ·refine st.newG λL G2 F4 C h _ st=> ?_;refine ⟨_,ma (st.le _ _ h),H,?_,?_⟩
  ·refine st.run (kY (bh g.qa0.length) _) λ_ G3 F5 A r st=> ?_;obtain ⟨B,rfl,D⟩:=A;refine ⟨_,rfl,ma (st.le _ _ (r _ _ h)),ld (st.le _ _ (r _ _ (C _ _ q4))) rfl,st.ld1 rfl,?_⟩;refine st.new λE Q st=> ?_;refine st.put0 (w':=(bA (bh g.qa0.length) ((x.left % g.qa1.length:Nat):Int) []).arr pm B pm) rfl rfl (by simp [ak,nI]) λR st=> ?_;exact fin (aa C r) D st
  ·refine st.new λE Q st=> ?_;refine st.run (kY (bh g.qa0.length) _) λ_ G3 F5 A r st=> ?_;obtain ⟨B,rfl,D⟩:=A;refine ⟨_,rfl,ma (st.le _ _ (r _ _ h)),ld (st.le _ _ (r _ _ (C _ _ q4))) rfl,st.ld2 rfl,?_⟩;refine st.put0 (w':=(bA (bh g.qa0.length) ((x.left % g.qa1.length:Nat):Int) []).arr pm B pm) rfl rfl (by simp [ak,nI]) λR st=> ?_;exact fin (aa C r) D st
 ·refine st.new λE Q st=> ?_;refine st.newG λL G2 F4 C h _ st=> ?_;refine ⟨_,ma (st.le _ _ h),H,?_⟩;refine st.run (kY (bh g.qa0.length) _) λ_ G3 F5 A r st=> ?_;obtain ⟨B,rfl,D⟩:=A;refine ⟨_,rfl,ma (st.le _ _ (r _ _ h)),ld (st.le _ _ (r _ _ (C _ _ q4))) rfl,st.ld2 rfl,?_⟩;refine st.put0 (w':=(bA (bh g.qa0.length) ((x.left % g.qa1.length:Nat):Int) []).arr pm B pm) rfl rfl (by simp [ak,nI]) λR st=> ?_;exact fin (aa C r) D st
theorem IP {F:PH} {v:Γ} {d:wa} {n:Nat} (hd:DV F v d) (hf:yq (d.1.length+4)) (hl:d.1.length<=1000000):ν 162 #[nQ v,U n] F λr G=>r=nW (se d n)/\F.le G:=by
 obtain ⟨s,rfl,K⟩:=hd.out;refine qd6 ?_;unfold Po;refine (St.start F).newG λX G1 F1 Q q1 _ h=> ?_;refine ⟨_,rfl,ai (h.le _ _ q1),?_⟩;refine h.runv (Gy (DV.mk (K.le Q)) hf) λW F2 O h=> ?_;have D:=aa Q O;have er:=K.len;refine ⟨_,rfl,λB=>⟨?_,aa D h.le⟩,λB=> ?_⟩
 ·have:se d n=mD:=w5.2 λE=>B E.1;rw [this]
 have B:chk d=0:=Classical.not_not.1 B;refine bD (xo · (n:Int) X _) d.1.length (λk G=>W.le G/\∀b∈d.1.take k,b.v<n) ⟨h.le,by simp⟩ ?_;rintro k F3 N hk ⟨J,g⟩ next;unfold xo;have P:=J _ _ (O _ _ q1);have A:=aa D J;refine ⟨_,ld P rfl,λL=>⟨_,ld P rfl,t8 (K.le A) (by decide) (by omega) L λa cc x H w M=> ?_⟩,λR=> ?_⟩
 ·rw [N4] at H;rw [show cc=aW x from M] at w;refine ⟨x.v,aE w rfl,λhb=>⟨?_,A⟩,λhb=> ?_⟩
  ·have:se d n=mD:=w5.2 λE=>by have:=E.2 x (vO H);omega
   rw [this]
  ·rw [aC (n:=d.1.length) (by omega) (by omega)];refine next _ (by omega) ⟨J,λb C=> ?_⟩;rw [bE H] at C;rcases vj.1 C with h|h
   ·exact g b h
   ·rw [vu.1 h];omega
 ·have e:k=d.1.length:=by omega
  subst e;rw [wB] at g;unfold Ef;exact ⟨by rw [cO.2 ⟨B,g⟩],A⟩
def gB (x:Fi):Prop:=((x.k=1\/x.k=2)\/(x.par=0/\x.pos=0/\x.ch=0))/\((x.k=1\/x.k=2)->x.qa2=[])/\((x.k=3\/x.k=4)\/x.left=0)/\(x.k=5\/x.tok=0)
open Classical in
theorem Ge {F:PH} {w:Γ} {x:Fi} (hx:Mem.rep F x w):ν 163 #[nQ w] F λr D=>r=nW (decide (gB x))/\F.le D:=by
 obtain ⟨tt,nn,rfl,ht,_⟩:=hx;have et:=ht.len;refine qd7 ?_;unfold Pq;refine fresh λN H l1 q _=> ?_;have R:∀{b:Bool},(b=nk↔gB x)->(nW b=nW (decide (gB x))/\F.le H):=λ{b} h=>⟨by congr 1;rw [wm,h,δ],l1⟩;have no:¬gB x->(nW mD=nW (decide (gB x))/\F.le H):=λh=>R ⟨λh=>(by cases h),λg=>absurd g h⟩;have Q:(x.qa2=[])↔¬(0:Int)<(tt.len:Int):=by
  rw [et];constructor
  ·intro h;rw [h];simp
  ·intro h;exact Wm (by omega)
 have P:∀beside:Bool,(beside=nk↔(x.k=3\/x.k=4))->((x.k=1\/x.k=2)\/(x.par=0/\x.pos=0/\x.ch=0))->((x.k=1\/x.k=2)->x.qa2=[])->
   qk N beside (λr D=>r=nW (decide (gB x))/\F.le D) H:=λbeside O B C=>by
  unfold qk;refine ⟨λA=>⟨_,ld q rfl,λG=>R ⟨λ_=>⟨B,C,.inl (O.1 A),.inl G⟩,λ_=>rfl⟩,λG=>⟨_,ld q rfl,R ?_⟩⟩,λA=>⟨_,ld q rfl,λM=>⟨_,ld q rfl,λG=>R ⟨λ_=>⟨B,C,.inr M,.inl G⟩,λ_=>rfl⟩,λG=>⟨_,ld q rfl,R ?_⟩⟩,λM=>no λg=> ?_⟩⟩
  ·rw [δ];exact ⟨λh=>⟨B,C,.inl (O.1 A),.inr h⟩,λg=>g.2.2.2.resolve_left G⟩
  ·rw [δ];exact ⟨λh=>⟨B,C,.inr M,.inr h⟩,λg=>g.2.2.2.resolve_left G⟩
  ·rcases g.2.2.1 with h|h
   ·rw [O.2 h] at A;cases A
   ·exact M h
 have X:((x.k=1\/x.k=2)\/(x.par=0/\x.pos=0/\x.ch=0))->((x.k=1\/x.k=2)->x.qa2=[])->jL N (λr D=>r=nW (decide (gB x))/\F.le D) H:=λB C=>by unfold jL;refine ⟨_,ld q rfl,λJ=>P nk ⟨λ_=> .inl J,λ_=>rfl⟩ B C,λJ=>⟨_,ld q rfl,P _ ?_ B C⟩⟩;rw [δ];exact ⟨λh=> .inr h,λh=>h.resolve_left J⟩
 have W:∀L:Bool,(L=nk↔(x.k=1\/x.k=2))->ql N L (λr D=>r=nW (decide (gB x))/\F.le D) H:=λL K=>by
  unfold ql;cases L with
  |true=>have E:=K.1 rfl;exact ⟨λh=>(by cases h),λ_=>⟨λ_=>⟨_,ld q rfl,λh=>no λg=>Q.1 (g.2.1 E) h,λh=>X (.inl E) λ_=>Q.2 h⟩,λh=>(by cases h)⟩⟩
  |false=>
   have E:¬(x.k=1\/x.k=2):=λh=>by have:=K.2 h;cases this
   refine ⟨λ_=>⟨_,ld q rfl,λh=>no λg=>h (g.1.resolve_left E).1,λB=>⟨_,ld q rfl,λh=>no λg=>h (g.1.resolve_left E).2.1,λC=>⟨_,ld q rfl,λh=>no λg=>h (g.1.resolve_left E).2.2,λJ=>⟨λh=>(by cases h),λ_=>X (.inr ⟨Classical.not_not.1 B,Classical.not_not.1 C,Classical.not_not.1 J⟩) λh=>absurd h E⟩⟩⟩⟩,λh=>(by cases h)⟩
 refine ⟨_,ld q rfl,λh=>W nk ⟨λ_=> .inl h,λ_=>rfl⟩,λh=>⟨_,ld q rfl,W _ ?_⟩⟩;rw [δ];exact ⟨λh=> .inr h,λh'=>h'.resolve_left h⟩
def kg (lit:Bool) (t:Tk):Bool:=if lit then !decide (t.lit=emp) else decide (t.cls=0)
open Classical in
theorem ut {F:PH} {v:Γ} {g:Gr} (hg:GV F v g) {sl:Sl} {l:Φ} (W:RL F sl l) (a8:l.length<=1000000000) (A:Bool):ν 164 #[nQ v,sl.v,nW A] F λr D=>r=nW (decide (fU g (kg A) l))/\F.le D:=by
 obtain ⟨c,n,t,s,p,lv,f,rfl,hs⟩:=hg;have et:=hs.t.len;have el:=W.len;refine qdB ?_;unfold Pt;refine fresh λb1 F1 l1 q1 _=> ?_;have hs:=hs.le l1;have W:=W.le l1;have no:∀{D:PH},F1.le D->¬fU g (kg A) l->(nW mD=nW (decide (fU g (kg A) l))/\F.le D):=λ{D} l h=>⟨by rw [η h],aa l1 l⟩;refine bD (xp · sl A b1 _) l.length (λj D=>F1.le D/\(∀n∈l.take j,0<=n/\∃t,g.qa2[n.toNat]? =V t/\kg A t=nk)/\∀(i:Nat) (x y:Int),i+1<j->l[i]? =V x->l[i+1]? =V y->x<y)
  ⟨au _,by simp,λi x y h=>by omega⟩ ?_
 rintro j F2 N hj ⟨M,i1,i2⟩ next;unfold xp;refine ⟨λH=> ?_,λa7=> ?_⟩
 ·have H:j<l.length:=by omega
  have K:=N5 H;generalize l[j]=x at K;obtain ⟨a,cc,ha,hr,hc⟩:=(W.le M).get (by decide) K;rw [show cc= #[U x] from hc] at hr;have B:F2.cell (nV a (nX (j:Int)*1))=V (U x):=by rw [N4];exact aE hr rfl
  have R:x∈l:=vO K;have p1:=M _ _ q1;have UV:¬(0<=x/\x<g.qa2.length)->(nW mD=nW (decide (fU g (kg A) l))/\F.le F2):=λh=>no M λhp=>by obtain ⟨h0,t',ht,_⟩:=hp.2.1 x R;have:=(N6.1 ht).1;exact h ⟨h0,by omega⟩
  refine ⟨a,ha,by omega,by omega,x,B,λh=>UV (by omega),λx0=>⟨a,ha,by omega,by omega,x,B,_,ld p1 rfl,λh=>UV (by omega),λx1=> ?_⟩⟩;have J:(∀y,0<j->l[j - 1]? =V y->y<x)->qp N sl A b1 (j:Int) (λr D=>r=nW (decide (fU g (kg A) l))/\F.le D) F2:=λO=>by
   unfold qp;refine ⟨_,ld p1 rfl,a,ha,by omega,by omega,x,B,t8 (hs.t.le M) (by decide) (by omega) (by omega) λa2 c2 y E a3 G=>⟨c2,Mem.len G,a3,?_⟩⟩;refine var1 (Mem.st G) (λb F3 l3 q3=> ?_) rfl (Mem.len G);have X:=aa M l3;obtain ⟨pp,nn,rfl,_,_⟩:=G;have bad:kg A y=mD->(nW mD=nW (decide (fU g (kg A) l))/\F.le F3):=λhk=>no X λhp=>by obtain ⟨h0,t',ht,a4⟩:=hp.2.1 x R;rw [E] at ht;cases ht;rw [a4] at hk;cases hk
   have L:kg A y=nk->qn N sl A b1 (j:Int) (λr D=>r=nW (decide (fU g (kg A) l))/\F.le D) F3:=λhk=>by
    unfold qn;rw [aC H];refine next _ H ⟨X,λm P=> ?_,λi u w hi hu hw=> ?_⟩
    ·rw [bE K] at P;rcases vj.1 P with P|P
     ·exact i1 m P
     ·rw [vu.1 P];exact ⟨by omega,y,E,hk⟩
    ·by_cases e:i+1<j
     ·exact i2 i u w e hu hw
     ·have e:j=i+1:=by omega
      subst e;rw [K] at hw;cases hw;exact O u (by omega) hu
   refine ⟨λC=>⟨y.lit,ld q3 rfl,?_⟩,λC=>⟨y.cls,ld q3 rfl,λh=>bad (by unfold kg;rw [C];simpa using h),λh=>L (by unfold kg;rw [C];simpa using h)⟩⟩;dsimp only;rw [mz];exact ⟨λh=>bad (by unfold kg;rw [C];simpa using h),λh=>L (by unfold kg;rw [C];simpa using h)⟩
  refine ⟨λa0=> ?_,λa0=>J λy h=>by omega⟩;have a0:0<j:=by omega
  have ew:i64.wrap ((j:Int) - 1)=((j - 1:Nat):Int):=by rw [aJ (by omega)];omega
  rw [ew];have E:=N5 (show j - 1<l.length by omega);generalize l[j - 1]=y at E;obtain ⟨a',a6,a5,Q,a1⟩:=(W.le M).get (by decide) E;rw [show a6= #[U y] from a1] at Q;refine ⟨a,ha,by omega,by omega,x,B,a',a5,by omega,by omega,y,by rw [N4];exact aE Q rfl,λh=>no M λhp=> ?_,λh=>J λz _ hz=> ?_⟩
  ·have:=hp.2.2 (j - 1) y x E (by rw [show j - 1+1=j by omega];exact K);omega
  ·rw [E] at hz;cases hz;omega
 ·have e:j=l.length:=by omega
  subst e;rw [wB] at i1;unfold Eg;refine ⟨?_,aa l1 M⟩;congr 1;rw [wm,δ,δ];constructor
  ·intro h;refine ⟨λe=>by rw [e] at el;simp at el;omega,i1,λi x y K E=>i2 i x y ?_ K E⟩;exact (N6.1 E).1
  ·intro h;have:l.length≠0:=λe=>h.1 (Wm e);omega
open Classical in
theorem Bx {F:PH} {v w:Γ} {g:Gr} {x:Fi} (hg:GV F v g) (hx:Mem.rep F x w) (hf:x.cond.1.length<=1000000) (a6:x.qa2.length<=1000000000):ν 131 #[nQ v,nQ w] F λr B=>r=nW (decide (cq g x))/\F.le B:=by
 have b4:=hg;have b9:=hx;obtain ⟨c,n,t,s,p,lv,f,rfl,hs⟩:=hg;obtain ⟨tt,nn,rfl,ht,hd⟩:=hx;have ec:=hs.c.len;have et:=hs.t.len;have es:=hs.s.len;have ep:=hs.p.len;refine qd3 ?_;unfold Pj;refine (St.start F).newG λb2 G1 F1 l1 q2 _ h=> ?_;refine h.newG λb3 G2 F2 l2 q3 _ h=> ?_;have q2:=l2 _ _ q2;have l1:=aa l1 l2;have R:∀{B:PH} {b:Bool},G2.le B->(b=nk↔cq g x)->(nW b=nW (decide (cq g x))/\F.le B):=λ{B b} l h=>⟨by congr 1;rw [wm,h,δ],aa l1 l⟩;have no:∀{B:PH},G2.le B->¬cq g x->(nW mD=nW (decide (cq g x))/\F.le B):=λl h=>R l ⟨λh=>(by cases h),λA=>absurd A h⟩;have kr:cq g x->1<=x.k/\x.k<=5:=λh=>by rcases h.2 with h|h|h<;>have:=h.1<;>omega
 have pl:cq g x->gB x:=λh=>by
  rcases h.2 with ⟨k,_,a,b,c⟩|⟨k,_,a,b,c,d⟩|⟨k,_,a,b,c,d⟩
  ·exact ⟨.inl k,λ_=>c,.inr a,.inr b⟩
  ·exact ⟨.inr ⟨a,b,c⟩,λh=>by omega,.inl k,.inr d⟩
  ·exact ⟨.inr ⟨a,b,c⟩,λh=>by omega,.inr d,.inl k⟩
 refine ⟨_,ld (h.le _ _ q3) rfl,λhk=>no h.le λA=>by have:=kr A;omega,λc6=>⟨_,ld (h.le _ _ q3) rfl,λhk=>no h.le λA=>by have:=kr A;omega,λa4=>⟨#[nn.v,U x.cond.2],rfl,ga (h.le _ _ q3) rfl,_,ld (h.le _ _ q2) rfl,?_⟩⟩⟩;dsimp only;rw [ec];refine h.runv (IP (d:=x.cond) (DV.mk (hd.le l1)) (by show _<=_;omega) hf) λG3 F3 l3 h=> ?_;replace no:∀{B:PH},G3.le B->¬cq g x->(nW mD=nW (decide (cq g x))/\F.le B):=λl h=>no (aa l3 l) h;have q3:=l3 _ _ q3;have q2:=l3 _ _ q2;have C:=aa l1 l3;refine ⟨_,rfl,λL=>no h.le λA=>(by rw [cO.2 A.1] at L;cases L),λL=>⟨_,rfl,ai (h.le _ _ q3),?_⟩⟩;have N:iB x.cond g.qa4.length:=cO.1 (by simpa using L);refine h.runv (Ge (Mem.le C b9)) λG4 F4 l4 h=> ?_;replace no:∀{B:PH},G4.le B->¬cq g x->(nW mD=nW (decide (cq g x))/\F.le B):=λl h=>no (aa l4 l) h;replace R:∀{B:PH} {b:Bool},G4.le B->(b=nk↔cq g x)->(nW b=nW (decide (cq g x))/\F.le B):=λl h=>R (aa l3 (aa l4 l)) h;have q3:=l4 _ _ q3;have q2:=l4 _ _ q2;have C:=aa C l4;refine ⟨_,rfl,λL=>no h.le λA=>(by rw [decide_eq_true (pl A)] at L;cases L),λL=> ?_⟩;have b7:gB x:=by simpa using L
 obtain ⟨P1,P2,P3,P4⟩:=b7;have j2:¬(x.k=1\/x.k=2)->∀q:Bool,(q=nk↔(x.k=3\/x.k=4))->qh b2 b3 q (λr B=>r=nW (decide (cq g x))/\F.le B) F4:=λE q hq=>by
  have M:=P1.resolve_left E;unfold qh;refine ⟨λJ=> ?_,λJ=> ?_⟩
  ·have hk:=hq.1 J;have h5:x.tok=0:=P4.resolve_left (by omega);have key:cq g x↔(0<=x.left/\x.left<g.qa1.length/\fU g (λt=>decide (t.cls=0)) x.qa2):=by
    constructor
    ·intro A;rcases A.2 with h|h|h
     ·exact absurd h.1 E
     ·exact h.2.1
     ·have:=h.1;omega
    ·intro h;exact ⟨N,.inr (.inl ⟨hk,h,M.1,M.2.1,M.2.2,h5⟩)⟩
   refine ⟨_,ld (h.le _ _ q3) rfl,λK=>⟨_,ld (h.le _ _ q3) rfl,_,ld (h.le _ _ q2) rfl,λh2=>⟨_,rfl,ai (h.le _ _ q2),_,ld (h.le _ _ q3) rfl,?_⟩,λh2=>no h.le λA=> ?_⟩,λK=>no h.le λA=>K (key.1 A).1⟩
   ·refine h.runv (ut (GV.le b4 C) (ht.le C) a6 mD) λG5 F5 l5 h=>⟨_,rfl,R (aa l5 h.le) ?_⟩;rw [δ,key];exact ⟨λh=>⟨K,by omega,h⟩,λh=>h.2.2⟩
   ·have:=(key.1 A).2.1;omega
  ·have hk:¬(x.k=3\/x.k=4):=λh=>by rw [hq.2 h] at J;cases J
   have a4:x.k=5:=by omega
   have h5:x.left=0:=P3.resolve_left hk;have key:cq g x↔(fU g (λt=> !decide (t.lit=emp)) x.qa2/\0<=x.tok/\∃t,g.qa2[x.tok.toNat]? =V t/\t.cls=0/\t.lit=emp):=by
    constructor
    ·intro A;rcases A.2 with h|h|h
     ·exact absurd h.1 E
     ·exact absurd h.1 hk
     ·exact h.2.1
    ·intro h;exact ⟨N,.inr (.inr ⟨a4,h,M.1,M.2.1,M.2.2,h5⟩)⟩
   have a9:∀{B:PH},G4.le B->¬(0<=x.tok/\x.tok<g.qa2.length)->(nW mD=nW (decide (cq g x))/\F.le B):=λl h=>no l λA=>by obtain ⟨_,K,y,X,_⟩:=key.1 A;have:=(N6.1 X).1;exact h ⟨K,by omega⟩
   refine ⟨_,ld (h.le _ _ q3) rfl,λK=>a9 h.le (by omega),λK=>⟨_,ld (h.le _ _ q3) rfl,_,ld (h.le _ _ q2) rfl,λh2=>a9 h.le (by omega),λh2=>⟨_,rfl,ai (h.le _ _ q2),_,ld (h.le _ _ q3) rfl,?_⟩⟩⟩;refine h.runv (ut (GV.le b4 C) (ht.le C) a6 nk) λG5 F5 l5 h=>⟨_,rfl,λL=>no (aa l5 h.le) λA=> ?_,λL=> ?_⟩
   ·rw [ε (show fU g (kg nk) x.qa2 from (key.1 A).1)] at L;cases L
   have a3:fU g (kg nk) x.qa2:=by simpa using L
   have c3:=aa C l5;refine ⟨_,ld (h.le _ _ (l5 _ _ q2)) rfl,_,ld (h.le _ _ (l5 _ _ q3)) rfl,h.ix (hs.t.le c3) (by decide) (by omega) (by omega) λa cc y X hr G=>⟨cc,Mem.len G,hr,?_⟩⟩;have b0:=Mem.st G;have c7:cc.size=7:=Mem.len G;obtain ⟨pp,c4,rfl,_,_⟩:=G;refine h.var b0 (λb6 G6 F6 l6 q6 h=> ?_) rfl rfl;refine ⟨_,ld (h.le _ _ q6) rfl,λa1=>⟨_,ld (h.le _ _ q6) rfl,R (aa l5 (aa l6 h.le)) ?_⟩,λa1=>no (aa l5 (aa l6 h.le)) λA=> ?_⟩
   ·rw [mz,δ,key];constructor
    ·intro hl;exact ⟨a3,by omega,y,X,a1,hl⟩
    ·rintro ⟨_,_,y',Q,_,hl⟩;rw [X] at Q;cases Q;exact hl
   ·obtain ⟨_,_,y',Q,a8,_⟩:=key.1 A;rw [X] at Q;cases Q;exact a1 a8
 have j1:∀q:Bool,(q=nk↔(x.k=1\/x.k=2))->qi b2 b3 x.k q (λr B=>r=nW (decide (cq g x))/\F.le B) F4:=λq hq=>by
  unfold qi;refine ⟨λJ=> ?_,λJ=> ?_⟩
  ·have hk:=hq.1 J;have key:cq g x↔oN g x:=by
    constructor
    ·intro A;rcases A.2 with h|h|h
     ·exact h.2.1
     ·have:=h.1;omega
     ·have:=h.1;omega
    ·intro h;exact ⟨N,.inl ⟨hk,h,P3.resolve_left (by omega),P4.resolve_left (by omega),P2 hk⟩⟩
   have UV:¬(0<=x.par/\x.par<g.qa0.length/\0<=x.ch/\x.ch<g.qa0.length)->(nW mD=nW (decide (cq g x))/\F.le F4):=λhn=>no h.le λA=>by obtain ⟨K,J,_,p',q',D,O,_⟩:=key.1 A;have:=(N6.1 D).1;have:=(N6.1 O).1;exact hn (by omega)
   have p2:=h.le _ _ q2;have W:=h.le _ _ q3;refine ⟨_,ld W rfl,λK=>UV (by omega),λK=>⟨_,ld W rfl,_,ld p2 rfl,λK=>UV (by omega),λh2=>⟨_,ld W rfl,λK=>UV (by omega),λh3=>⟨_,ld W rfl,_,ld p2 rfl,λK=>UV (by omega),λh4=>⟨_,ld p2 rfl,_,ld W rfl,?_⟩⟩⟩⟩⟩;refine h.ix (hs.p.le C) (by decide) (by omega) (by omega) λa cc y X hr G=> ?_;obtain ⟨rr,n2,c5,rfl,a5,_,_⟩:=G;have er:=a5.len;have b1:¬(0<=x.pos/\x.pos<y.right.length)->(nW mD=nW (decide (cq g x))/\F.le F4):=λhn=>no h.le λA=>by obtain ⟨_,_,K,p',q',D,_,H⟩:=key.1 A;rw [X] at D;cases D;have:=(N6.1 H).1;exact hn (by omega)
   refine ⟨rr,aM hr rfl,_,ld W rfl,λh5=>⟨_,ld W rfl,λh6=>⟨_,ld W rfl,?_⟩,λh6=>b1 (by omega)⟩,λh5=>b1 (by omega)⟩;have b5:x.pos.toNat<y.right.length:=by omega
   have M:=N5 b5;generalize y.right[x.pos.toNat]=z at M;obtain ⟨a2,c2,a7,a0,b8⟩:=(a5.le h.le).get (by decide) M;rw [show c2=z.arr from b8] at a0;refine ⟨a2,a7,by omega,by omega,z.t,aE a0 rfl,λP=>⟨_,ld W rfl,a2,a7,by omega,by omega,z.i,aM a0 rfl,_,ld p2 rfl,_,ld W rfl,?_⟩,λP=>no h.le λA=> ?_⟩
   ·refine h.ix (hs.p.le C) (by decide) (by omega) (by omega) λa cc u hu hr G=> ?_;obtain ⟨r3,n3,c8,rfl,_,_,_⟩:=G;refine ⟨u.left,aM hr rfl,R h.le ?_⟩;rw [δ,key];have P:z.t=mD:=by simpa using P
    constructor
    ·intro he;refine ⟨by omega,by omega,by omega,y,u,X,hu,?_⟩;rw [M,<- he,<- P]
    ·rintro ⟨_,_,_,p',q',D,O,H⟩;rw [X] at D;cases D;rw [hu] at O;cases O;rw [M] at H;cases H;rfl
   ·obtain ⟨_,_,_,p',q',D,O,H⟩:=key.1 A;rw [X] at D;cases D;rw [M] at H;cases H;cases P
  ·have E:¬(x.k=1\/x.k=2):=λh=>by rw [hq.2 h] at J;cases J
   refine ⟨λh3=>j2 E _ ?_,λh3=>j2 E _ ?_⟩
   ·rw [δ];exact ⟨λh=> .inl h,λ_=>h3⟩
   ·rw [δ];exact ⟨λh=> .inr h,λh=>h.resolve_left h3⟩
 refine ⟨_,ld (h.le _ _ q3) rfl,λJ=>j1 _ ?_,λJ=>j1 _ ?_⟩
 ·rw [δ];exact ⟨λh=> .inl h,λ_=>J⟩
 ·rw [δ];exact ⟨λh=> .inr h,λh=>h.resolve_left J⟩
theorem oI {F:PH} {v:Γ} {g:Gr} (hg:GV F v g) (i:Int) (h1:g.lvs.length<=1000000) (h2:∀x∈g.lvs,x.ps.length<=1000000):ν 130 #[nQ v,U i] F λr B=>r=nW (decide (i∈g.lvs.flatMap Lv.ps))/\F.le B:=by
 obtain ⟨c,n,t,s,p,lv,f,rfl,O⟩:=hg;have el:=O.l.len;refine qd2 ?_;unfold Ph;refine fresh λb2 F1 l1 q1 _=> ?_;have O:=O.le l1;refine bD (xm · i b2 _) g.lvs.length (λk B=>F1.le B/\i ∉ (g.lvs.take k).flatMap Lv.ps) ⟨au _,by simp⟩ ?_;rintro k F2 N hk ⟨L,G⟩ next;unfold xm;have p1:=L _ _ q1;refine ⟨_,ld p1 rfl,λA=> ?_,λa3=> ?_⟩
 ·have A:k<g.lvs.length:=by omega
  have R:=N5 A;have C:=Vc A;generalize g.lvs[k]=x at R C;obtain ⟨a,cc,ha,hr,hc⟩:=(O.l.le L).get (by decide) R;obtain ⟨P,nn,rfl,M,_⟩:=hc;have a4:=M.len;have a5:=h2 x C;have w:∀{B:PH},F2.le B->B.cell (nV a (nX (k:Int)*4))=V P.v:=λl=>by rw [N4];exact aK l (aE hr rfl)
  refine bD (xk N · i b2 (k:Int) _) x.ps.length (λj B=>F2.le B/\i ∉ x.ps.take j) ⟨au _,by simp⟩ ?_;rintro j F3 N2 hj ⟨D,H⟩ E;unfold xk;have p3:=D _ _ p1;refine ⟨_,ld p3 rfl,a,ha,by omega,by omega,P,w D,λa1=>⟨_,ld p3 rfl,a,ha,by omega,by omega,P,w D,t8 (M.le D) (by decide) (by omega) (by omega) λa2 c2 y W K X=> ?_⟩,λa0=> ?_⟩
  ·rw [N4] at W;rw [show c2= #[U y] from X] at K;refine ⟨y,aE K rfl,λQ=>⟨?_,aa l1 (aa L D)⟩,λQ=> ?_⟩
   ·rw [ε (XW.2 ⟨x,C,by rw [<- Q];exact vO W⟩)]
   ·rw [aC (n:=x.ps.length) (by omega) (by omega)];refine E _ (by omega) ⟨D,λJ=> ?_⟩;rw [bE W] at J;rcases vj.1 J with h|h
    ·exact H h
    ·exact Q (vu.1 h).symm
  ·have e:j=x.ps.length:=by omega
   subst e;rw [wB] at H;unfold Ed;rw [aC A];refine next _ A ⟨aa L D,λJ=> ?_⟩;rw [bE R,XV] at J;rcases vj.1 J with h|h
   ·exact G h
   ·simp at h;exact H h
 ·have e:k=g.lvs.length:=by omega
  subst e;rw [wB] at G;unfold Ec;exact ⟨by rw [η G],aa l1 L⟩
structure Ru where
 kind:Nat
 a:Nat
 b:Nat
 c:Nat
 cond:Nat
instance:Mem Ru where
 n:=5
 rep _ x c:=c= #[vB x.kind,vB x.a,vB x.b,vB x.c,vB x.cond]/\x.kind<256/\x.a<256/\x.b<256/\x.c<256/\x.cond<256
 len h:=by obtain ⟨rfl,_⟩:=h;rfl
 le _ h:=h
 st h:=by obtain ⟨rfl,_⟩:=h;simp [ak]
abbrev yO (g:Gr) (x:Ru):wa:=pj (jb x.cond g.qa4.length)
open Classical in
def ki (g:Gr) (x:Fi):Gr:=if cq g x then {g with fils:=g.fils++[x]} else g
def nR (g:Gr) (x:Ru):Gr:=
 if ((x.a % g.qa0.length:Nat):Int)∈g.lvs.flatMap Lv.ps then g
 else {g with lvs:=g.lvs++[⟨((x.a % g.qa0.length:Nat):Int)::(if x.b % g.qa0.length≠x.a % g.qa0.length/\((x.b % g.qa0.length:Nat):Int) ∉ g.lvs.flatMap Lv.ps then [((x.b % g.qa0.length:Nat):Int)] else []),((x.c % 4:Nat):Int),yO g x⟩]}
def tokG (g:Gr) (x:Ru):Gr:={g with qa2:=g.qa2.modify (x.a % 9) λt=>{t with cond:=yO g x}}
def ruleG (g:Gr) (x:Ru):Gr:=
 if x.kind % 8<2 then nR g x
 else if x.kind % 8<4 then ki g ⟨((x.kind % 8 - 1:Nat):Int),((x.a % g.qa0.length:Nat):Int),((x.c % 16:Nat):Int),((x.b % g.qa0.length:Nat):Int),0,0,[],yO g x⟩
 else if x.kind % 8<6 then ki g ⟨((x.kind % 8 - 1:Nat):Int),0,0,0,((x.a % g.qa1.length:Nat):Int),0,[((x.b % 9:Nat):Int)],yO g x⟩
 else if x.kind % 8=6 then ki g ⟨5,0,0,0,0,0,[5],yO g x⟩
 else tokG g x
theorem bS.sz {α:Type} [Mem α] {F:PH} {l:List α} {vs:List Γ} (h:bS F l vs):∀d∈vs,d.size=Mem.n α:=by
 induction h with
 |nil=>intro d hd;cases hd
 |cons h _ ih=>
  intro d hd;rcases tS.1 hd with rfl|hd
  ·exact Mem.len h
  ·exact ih d hd
structure RK (F G:PH) (b3 b5:Nat) (g:Gr) (x:Ru) (c n t s p l f m:Sl):Prop where
 lF:F.le G
 q3:G b3=V (Y #[vB x.kind,vB x.a,vB x.b,vB x.c,vB x.cond] 194)
 q5:G b5=V (Y #[m.v,U (yO g x).2] 33)
 gs:GS G g c n t s p l f
 m:RL G m (yO g x).1
theorem RK.le {F G A:PH} {B w:Nat} {g:Gr} {x:Ru} {c n t s p l f m:Sl} (h:RK F G B w g x c n t s p l f m) (r:G.le A):RK F A B w g x c n t s p l f m:=
 ⟨aa h.lF r,r _ _ h.q3,r _ _ h.q5,h.gs.le r,h.m.le r⟩
theorem RK.gv {F G:PH} {w r:Nat} {g:Gr} {x:Ru} {c n t s p l f m:Sl} (h:RK F G w r g x c n t s p l f m):GV G (g.arr c n t s p l f) g:=⟨c,n,t,s,p,l,f,rfl,h.gs⟩
section
variable {F G F1:PH} {b2 b3 b4 b5 b7 b8:Nat} {g g':Gr} {x:Ru} {c n t s p l f m:Sl}
theorem jd {w:Γ} (hF:F.le G) (r:GV G w g') (st:St G F1 [pt b4 (Y zG 39),pt b2 (Y w 39)]):
  ∃v:Γ,v.size=9/\F1.row (oB b2 0 I) v/\aA F1 (oB b4 0 I) 9 v λF2=>∃v:Γ,v.size=9/\F2.row (oB b4 0 I) v/\LR F g' (nQ v) F2:=by
 refine ⟨_,r.size,st.whole1,?_⟩;refine st.put0 (w':=w) r.size rfl r.st λA h=> ?_;exact ⟨_,r.size,h.whole0,⟨_,rfl,r.le h.le⟩,aa hF h.le⟩
theorem wx {y:Fi} {r h:Sl} (K:RK F G b3 b5 g x c n t s p l f m) (M:g.fils.length<=1000000) (H:y.cond.1.length<=1000000) (P:y.qa2.length<=1000) (E:RL G r y.qa2) (C:RL G h y.cond.1)
  (st:St G F1 [pt b7 (Y (y.arr r h) 233),pt b4 (Y zG 39),pt b2 (Y (g.arr c n t s p l f) 39)]):
  sN b2 b4 b7 (LR F (ki g y)) F1:=by
 obtain ⟨_,_,T⟩:=qfX;unfold sN;refine ⟨_,rfl,st.whole2,_,rfl,st.whole0,?_⟩;refine st.runv (Bx K.gv ⟨r,h,rfl,E,C⟩ H (by omega)) λQ F2 w st=> ?_;have K:=K.le w;refine ⟨_,rfl,λB=> ?_,λB=> ?_⟩
 ·have e:ki g y={g with fils:=g.fils++[y]}:=by unfold ki;rw [Χ (show cq g y by simpa using B)]
  rw [e];refine ⟨_,st.ld2 rfl,_,rfl,st.whole0,?_⟩;refine St.grow T st K.gs.f (y:=y) ⟨r,h,rfl,E.le w,C.le w⟩ M rfl (λN L st=>st.whole0) λD N L J A st=> ?_;have K:=K.le J;refine st.set2 (w':=Gr.arr {g with fils:=g.fils++[y]} c n t s p l D) (vr rfl) rfl λO st=> ?_;unfold nZ;exact jd K.lF ⟨c,n,t,s,p,l,D,rfl,K.gs.c,K.gs.n,K.gs.t,K.gs.s,K.gs.p,K.gs.l,A⟩ st.tail
 ·have e:ki g y=g:=by unfold ki;rw [Υ (show ¬cq g y by simpa using B)]
  rw [e];unfold nZ;exact jd K.lF K.gv st.tail
theorem DF {y:Lv} {w h:Sl} (K:RK F G b3 b5 g x c n t s p l f m) (H:g.lvs.length<=1000000) (D:RL G w y.ps) (B:RL G h y.cond.1)
  (st:St G F1 [pt b8 (Y (y.arr w h) 236),pt b4 (Y zG 39),pt b2 (Y (g.arr c n t s p l f) 39)]):
  xd b2 b4 b8 (LR F {g with lvs:=g.lvs++[y]}) F1:=by
 obtain ⟨_,_,T⟩:=qfW;unfold xd;refine ⟨_,st.ld2 rfl,_,rfl,st.whole0,?_⟩;refine St.grow T st K.gs.l (y:=y) ⟨w,h,rfl,D,B⟩ H rfl (λJ E st=>st.whole0) λA J E C r st=> ?_;have K:=K.le C;refine st.set2 (w':=Gr.arr {g with lvs:=g.lvs++[y]} c n t s p A f) (vr rfl) rfl λL st=> ?_;unfold oc;exact jd K.lF ⟨c,n,t,s,p,A,f,rfl,K.gs.c,K.gs.n,K.gs.t,K.gs.s,K.gs.p,r,K.gs.f⟩ st.tail
end
theorem Gf {α:Type} (l:List α) (i:Nat) (f:α->α) {x:α} (h:l[i]? =V x):l.modify i f=l.set i (f x):=by
 apply WH;intro j;rw [YJ,Yk];by_cases e:i=j
 ·subst e;obtain ⟨g,rfl⟩:=N6.1 h;simp [g]
 ·simp [e]
structure RH (g:Gr) (x:Ru):Prop where
 ka:x.kind<256
 a:x.a<256
 b:x.b<256
 c:x.c<256
 pl:g.qa0.length<=1000000
 p0:g.qa0.length≠0
 nl:g.qa1.length<=1000000
 n0:g.qa1.length≠0
 tl:g.qa2.length<=1000000
 t9:9<=g.qa2.length
 ll:g.lvs.length<=1000000
 lp:∀y∈g.lvs,y.ps.length<=1000000
 fl:g.fils.length<=1000000
 dl:(yO g x).1.length<=1000000
section
variable {F G F1:PH} {b2 b3 b4 b5 b7 b8:Nat} {g g':Gr} {x:Ru} {c n t s p l f m:Sl}
abbrev f0 (g:Gr) (x:Ru):Fi:=⟨0,0,0,0,0,0,[],yO g x⟩
theorem wN {a b:Nat} (h:a<256):sj (i64.wrap (a:Int)) (b:Int)=((a % b:Nat):Int):=by rw [aJ (by omega),iT]
theorem DG (K:RK F G b3 b5 g x c n t s p l f m) (H:RH g x) {q:Bool} (hk:4<=x.kind % 8) (hq:q=nk↔(x.kind % 8=4\/x.kind % 8=5))
  (st:St G F1 [pt b7 (Y ((f0 g x).arr pm m) 233),pt b4 (Y zG 39),pt b2 (Y (g.arr c n t s p l f) 39)]):
  xf b2 b3 b4 b5 b7 (x.kind:Int) q (LR F (ruleG g x)) F1:=by
 have es:=K.gs.s.len;have et:=K.gs.t.len;have e8:sj (x.kind:Int) 8=((x.kind % 8:Nat):Int):=iT x.kind 8;have ka:=H.ka;unfold xf;refine ⟨λE=> ?_,λE=> ?_⟩
 ·have a1:=hq.1 E;have e:ruleG g x=ki g ⟨((x.kind % 8 - 1:Nat):Int),0,0,0,((x.a % g.qa1.length:Nat):Int),0,[((x.b % 9:Nat):Int)],yO g x⟩:=by unfold ruleG;rw [Υ (by omega),Υ (by omega),Χ (by omega)]
  rw [e];refine ⟨_,ld (st.le _ _ K.q3) rfl,?_⟩;dsimp only;rw [e8,show i64.wrap ((x.kind % 8:Nat):Int)=((x.kind % 8:Nat):Int) from aJ (by omega),show i64.wrap ((3:Int)+((x.kind % 8:Nat):Int))=(3:Int)+((x.kind % 8:Nat):Int) from aJ (by omega),show i64.wrap ((3:Int)+((x.kind % 8:Nat):Int) - 4)=((x.kind % 8 - 1:Nat):Int) by rw [aJ (by omega)];omega];refine st.set0 (w':=Fi.arr ⟨((x.kind % 8 - 1:Nat):Int),0,0,0,0,0,[],yO g x⟩ pm m) (vr rfl) rfl λF2 st=> ?_;refine ⟨_,ld (st.le _ _ K.q3) rfl,_,st.ld2 rfl,by have:=H.n0;omega,?_⟩;rw [es,wN H.a];refine st.set0 (w':=Fi.arr ⟨((x.kind % 8 - 1:Nat):Int),0,0,0,((x.a % g.qa1.length:Nat):Int),0,[],yO g x⟩ pm m) (vr rfl) rfl λF3 st=> ?_;refine ⟨_,ld (st.le _ _ K.q3) rfl,?_⟩;dsimp only;rw [show sj (i64.wrap (x.b:Int)) (9:Int)=((x.b % 9:Nat):Int) from wN (b:=9) H.b];refine st.newG λA G2 L r q _ st=> ?_;refine st.set0 (w':=Fi.arr ⟨((x.kind % 8 - 1:Nat):Int),0,0,0,((x.a % g.qa1.length:Nat):Int),0,[((x.b % 9:Nat):Int)],yO g x⟩ (t7 (V (oB A 0 I)) 1 1) m) (vr rfl) rfl λF5 st=> ?_;exact wx (y:=⟨((x.kind % 8 - 1:Nat):Int),0,0,0,((x.a % g.qa1.length:Nat):Int),0,[((x.b % 9:Nat):Int)],yO g x⟩) (K.le r) H.fl H.dl (by simp) (kX q) (K.m.le r) st
 ·have a0:¬(x.kind % 8=4\/x.kind % 8=5):=λh=>by rw [hq.2 h] at E;cases E
  rw [e8];refine ⟨λh6=> ?_,λh6=> ?_⟩
  ·have e:ruleG g x=ki g ⟨5,0,0,0,0,0,[5],yO g x⟩:=by unfold ruleG;rw [Υ (by omega),Υ (by omega),Υ (by omega),Χ (by omega)]
   rw [e];refine st.set0 (w':=Fi.arr ⟨5,0,0,0,0,0,[],yO g x⟩ pm m) (vr rfl) rfl λF2 st=> ?_;refine st.newG λC G2 L r q _ st=> ?_;refine st.set0 (w':=Fi.arr ⟨5,0,0,0,0,0,[5],yO g x⟩ (t7 (V (oB C 0 I)) 1 1) m) (vr rfl) rfl λF5 st=> ?_;exact wx (y:=⟨5,0,0,0,0,0,[5],yO g x⟩) (K.le r) H.fl H.dl (by simp) (kX q) (K.m.le r) st
  ·have e:ruleG g x=tokG g x:=by unfold ruleG;rw [Υ (by omega),Υ (by omega),Υ (by omega),Υ (by omega)]
   rw [e];obtain ⟨_,_,T⟩:=V7;have a2:=H.t9;have a3:=H.tl;have h9:x.a % 9<9:=VU _ (by decide);obtain ⟨vs,J,M⟩:=K.gs.t;have N:=N5 (show x.a % 9<g.qa2.length by omega);generalize g.qa2[x.a % 9]=y at N;obtain ⟨w,O,P,_⟩:=J.get N;refine st.new λR F2 st=> ?_;have st:=st.imp (A':=own (t7 (V (oB R 0 I)) 0 0) 166 7 []) 0 rfl λH _ hH=>gP hH;refine ⟨_,st.ld3 rfl,?_⟩;refine St.app0 T st (M.le st.le) J.st (by show 0+t.len<=_;omega) λD F3 st a5=> ?_;rw [zB] at st;refine ⟨_,ld (st.le _ _ K.q3) rfl,_,rfl,ai (st.le _ _ K.q5),?_⟩;rw [show sj (i64.wrap (x.a:Int)) (9:Int)=((x.a % 9:Nat):Int) from wN (b:=9) H.a];refine st.elN 0 rfl J.sz O (by decide) rfl (by show 5+2<=7;decide) (by simp [ak,nI]) λL st=> ?_;obtain ⟨pp,nn,rfl,X,a4⟩:=P;have W:Mem.rep G {y with cond:=yO g x} (wr (y.arr pp nn) 5 (#[m.v,U (yO g x).2]:Γ).toList):=⟨pp,m,rfl,X,K.m⟩;refine st.pinOwn (K:=λL=>pv L (oB b2 3 I) (nI D) _) λG5 l5 B st=> ?_;have K:=K.le l5;have Q:RL G5 D (tokG g x).qa2:=by show RL G5 D (g.qa2.modify (x.a % 9) λt=>{t with cond:=yO g x});rw [Gf _ _ _ N];exact ⟨_,(J.set W).le l5,B⟩
   refine st.set2 (w':=Gr.arr (tokG g x) c n D s p l f) (vr rfl) rfl λF6 st=> ?_;exact jd (g':=tokG g x) K.lF ⟨c,n,D,s,p,l,f,rfl,K.gs.c,K.gs.n,Q,K.gs.s,K.gs.p,K.gs.l,K.gs.f⟩ st.tail
theorem DH (K:RK F G b3 b5 g x c n t s p l f m) (H:RH g x) {q:Bool} (O:2<=x.kind % 8) (B:q=nk↔(x.kind % 8=2\/x.kind % 8=3))
  (st:St G F1 [pt b7 (Y ((f0 g x).arr pm m) 233),pt b4 (Y zG 39),pt b2 (Y (g.arr c n t s p l f) 39)]):
  xg b2 b3 b4 b5 (x.a:Int) p b7 (x.kind:Int) q (LR F (ruleG g x)) F1:=by
 have C:=K.gs.p.len;have A:sj (x.kind:Int) 8=((x.kind % 8:Nat):Int):=iT x.kind 8;have N:=H.ka;unfold xg;refine ⟨λr=> ?_,λr=> ?_⟩
 ·have w:=B.1 r;have e:ruleG g x=ki g ⟨((x.kind % 8 - 1:Nat):Int),((x.a % g.qa0.length:Nat):Int),((x.c % 16:Nat):Int),((x.b % g.qa0.length:Nat):Int),0,0,[],yO g x⟩:=by unfold ruleG;rw [Υ (by omega),Χ (by omega)]
  rw [e];refine ⟨_,ld (st.le _ _ K.q3) rfl,?_⟩;dsimp only;rw [A,show i64.wrap ((x.kind % 8:Nat):Int)=((x.kind % 8:Nat):Int) from aJ (by omega),show i64.wrap ((1:Int)+((x.kind % 8:Nat):Int))=(1:Int)+((x.kind % 8:Nat):Int) from aJ (by omega),show i64.wrap ((1:Int)+((x.kind % 8:Nat):Int) - 2)=((x.kind % 8 - 1:Nat):Int) by rw [aJ (by omega)];omega];refine st.set0 (w':=Fi.arr ⟨((x.kind % 8 - 1:Nat):Int),0,0,0,0,0,[],yO g x⟩ pm m) (vr rfl) rfl λF2 st=> ?_;rw [C,wN H.a];refine st.set0 (w':=Fi.arr ⟨((x.kind % 8 - 1:Nat):Int),((x.a % g.qa0.length:Nat):Int),0,0,0,0,[],yO g x⟩ pm m) (vr rfl) rfl λL st=> ?_;refine ⟨_,ld (st.le _ _ K.q3) rfl,?_⟩;dsimp only;rw [show sj (i64.wrap (x.c:Int)) (16:Int)=((x.c % 16:Nat):Int) from wN (b:=16) H.c];refine st.set0 (w':=Fi.arr ⟨((x.kind % 8 - 1:Nat):Int),((x.a % g.qa0.length:Nat):Int),((x.c % 16:Nat):Int),0,0,0,[],yO g x⟩ pm m) (vr rfl) rfl λM st=> ?_;refine ⟨_,ld (st.le _ _ K.q3) rfl,_,st.ld2 rfl,by have:=H.p0;omega,?_⟩;rw [C,wN H.b];refine st.set0 (w':=Fi.arr ⟨((x.kind % 8 - 1:Nat):Int),((x.a % g.qa0.length:Nat):Int),((x.c % 16:Nat):Int),((x.b % g.qa0.length:Nat):Int),0,0,[],yO g x⟩ pm m) (vr rfl) rfl λJ st=> ?_;exact wx (y:=⟨((x.kind % 8 - 1:Nat):Int),((x.a % g.qa0.length:Nat):Int),((x.c % 16:Nat):Int),((x.b % g.qa0.length:Nat):Int),0,0,[],yO g x⟩) K H.fl H.dl (by simp) (.nil _) K.m st
 ·have D:¬(x.kind % 8=2\/x.kind % 8=3):=λh=>by rw [B.2 h] at r;cases r
  rw [A];refine ⟨λE=>DG K H (by omega) ?_ st,λE=>DG K H (by omega) ?_ st⟩
  ·rw [δ];omega
  ·rw [δ];omega
theorem DI (K:RK F G b3 b5 g x c n t s p l f m) (H:RH g x) {q:Bool} (hq:q=nk↔(x.kind % 8=0\/x.kind % 8=1))
  (st:St G F1 [pt b7 (Y ((f0 g x).arr pm m) 233),pt b4 (Y zG 39),pt b2 (Y (g.arr c n t s p l f) 39)]):
  xh b2 b3 b4 b5 (x.a:Int) p b7 (x.kind:Int) q (LR F (ruleG g x)) F1:=by
 have X:=K.gs.p.len;have e8:sj (x.kind:Int) 8=((x.kind % 8:Nat):Int):=iT x.kind 8;unfold xh;refine ⟨λJ=> ?_,λJ=> ?_⟩
 ·have a0:=hq.1 J;have e:ruleG g x=nR g x:=by unfold ruleG;rw [Χ (by omega)]
  rw [e,X,wN H.a];refine ⟨_,rfl,st.whole2,?_⟩;refine st.runv (oI K.gv _ H.ll H.lp) λG2 F2 l2 st=> ?_;have K:=K.le l2;refine ⟨_,rfl,λN=> ?_,λN=> ?_⟩
  ·have D:((x.a % g.qa0.length:Nat):Int) ∉ g.lvs.flatMap Lv.ps:=by simpa using N
   refine st.new λr F3 st=> ?_;have st:=st.imp (A':=own (t7 (V (oB r 0 I)) 1 1) 3 1 [U ((x.a % g.qa0.length:Nat):Int)]) 0 rfl λH _ E=> .inr ⟨r,_,rfl,E,rfl,ru _,rfl,rfl⟩;refine ⟨_,ld (st.le _ _ K.q3) rfl,_,rfl,ai (st.le _ _ K.q5),rfl,?_⟩;rw [show sj (x.c:Int) (4:Int)=((x.c % 4:Nat):Int) from iT x.c 4,show i64.wrap ((x.c % 4:Nat):Int)=((x.c % 4:Nat):Int) from aJ (by omega)];refine st.new λb8 F4 st=> ?_;refine st.put0 (w':=Lv.arr ⟨[((x.a % g.qa0.length:Nat):Int)],((x.c % 4:Nat):Int),yO g x⟩ (t7 (V (oB r 0 I)) 1 1) m) rfl rfl (by simp [ak,nI]) λF5 st=> ?_;refine ⟨_,ld (st.le _ _ K.q3) rfl,_,st.ld4 rfl,by have:=H.p0;omega,?_⟩;have j6:∀{G M:PH} {q6:Bool},RK F G b3 b5 g x c n t s p l f m->(q6=nk↔(x.b % g.qa0.length≠x.a % g.qa0.length/\((x.b % g.qa0.length:Nat):Int) ∉ g.lvs.flatMap Lv.ps))->
     St G M [pt b8 (Y (Lv.arr ⟨[((x.a % g.qa0.length:Nat):Int)],((x.c % 4:Nat):Int),yO g x⟩ (t7 (V (oB r 0 I)) 1 1) m) 236),own (t7 (V (oB r 0 I)) 1 1) 3 1 [U ((x.a % g.qa0.length:Nat):Int)],pt b7 (Y ((f0 g x).arr pm m) 233),pt b4 (Y zG 39),pt b2 (Y (g.arr c n t s p l f) 39)]->
     xe b2 b4 b8 (x.b:Int) p q6 (LR F (nR g x)) M:=λ{G M q6} K B st=>by
    unfold xe;refine ⟨λL=> ?_,λL=> ?_⟩
    ·have C:nR g x={g with lvs:=g.lvs++[⟨[((x.a % g.qa0.length:Nat):Int),((x.b % g.qa0.length:Nat):Int)],((x.c % 4:Nat):Int),yO g x⟩]}:=by unfold nR;rw [Υ D,Χ (B.1 L)]
     rw [C];refine ⟨_,st.ld0 rfl,?_⟩;rw [X,wN H.b];refine st.push1 sG (c:= #[U ((x.b % g.qa0.length:Nat):Int)]) rfl (by simp [ak]) (by show 1<=400000000000;decide) λs' G7 F7 l7 st a2=> ?_;refine st.set0 (w':=Lv.arr ⟨[((x.a % g.qa0.length:Nat):Int),((x.b % g.qa0.length:Nat):Int)],((x.c % 4:Nat):Int),yO g x⟩ s' m) (vr rfl) rfl λF8 st=> ?_;obtain ⟨O,P,⟨H9,W,E⟩,st⟩:=st.front1.pin;have w:RL O s' [((x.a % g.qa0.length:Nat):Int),((x.b % g.qa0.length:Nat):Int)]:=RL.ints.2 ((bO.rd W).le E);have K:=K.le (aa l7 P);have st:=st.front1.tail;exact DF (y:=⟨[((x.a % g.qa0.length:Nat):Int),((x.b % g.qa0.length:Nat):Int)],((x.c % 4:Nat):Int),yO g x⟩) K H.ll w K.m st
    ·have Q:¬(x.b % g.qa0.length≠x.a % g.qa0.length/\((x.b % g.qa0.length:Nat):Int) ∉ g.lvs.flatMap Lv.ps):=λh=>by rw [B.2 h] at L;cases L
     have C:nR g x={g with lvs:=g.lvs++[⟨[((x.a % g.qa0.length:Nat):Int)],((x.c % 4:Nat):Int),yO g x⟩]}:=by unfold nR;rw [Υ D,Υ Q]
     rw [C];obtain ⟨O,P,⟨H9,W,E⟩,st⟩:=st.front1.pin;have w:RL O (t7 (V (oB r 0 I)) 1 1) [((x.a % g.qa0.length:Nat):Int)]:=RL.ints.2 ((bO.rd W).le E);have K:=K.le P;have st:=st.front1.tail;exact DF (y:=⟨[((x.a % g.qa0.length:Nat):Int)],((x.c % 4:Nat):Int),yO g x⟩) K H.ll w K.m st
   rw [X,wN H.b];refine ⟨λR=>⟨_,rfl,st.whole4,?_⟩,λA=>j6 K ?_ st⟩
   ·refine st.runv (oI K.gv _ H.ll H.lp) λG6 F6 l6 st=> ?_;refine ⟨_,rfl,j6 (K.le l6) ?_ st⟩;simp only [Bool.not_eq_true',decide_eq_false_iff_not];exact ⟨λh=>⟨λe=>R (by rw [e]),h⟩,λh=>h.2⟩
   ·have A:x.b % g.qa0.length=x.a % g.qa0.length:=by omega
    exact ⟨λh=>(by cases h),λh=>absurd A h.1⟩
  ·have C:nR g x=g:=by unfold nR;rw [Χ (by simpa using N)]
   rw [C];unfold oc;exact jd K.lF K.gv st.tail
 ·have a1:¬(x.kind % 8=0\/x.kind % 8=1):=λh=>by rw [hq.2 h] at J;cases J
  rw [e8];refine ⟨λh4=>DH K H (by omega) ?_ st,λh4=>DH K H (by omega) ?_ st⟩
  ·rw [δ];omega
  ·rw [δ];omega
end
theorem By {F:PH} {w v:Γ} {g:Gr} {x:Ru} (E:GV F w g) (M:Mem.rep F x v) (H:RH g x) (N:g.qa4.length<=6):
  ν 95 #[nQ w,nQ v] F (LR F (ruleG g x)):=by
 obtain ⟨c,n,t,s,p,l,f,rfl,A⟩:=E;obtain ⟨rfl,a0,a1,G,J,B⟩:=M;have O:=A.c.len;have ep:=A.p.len;refine aac ?_;unfold Wj;refine (St.start F).new λb2 F1 st=> ?_;refine st.newG λb3 G1 F2 l1 q3 _ st=> ?_;refine st.new λb4 F3 st=> ?_;refine ⟨_,ld (st.le _ _ q3) rfl,_,st.ld1 rfl,?_⟩;dsimp only;rw [O];refine st.run (yS x.cond g.qa4.length B N _) λ_ G2 F4 P Q st=> ?_;obtain ⟨⟨_,rfl,R⟩,-⟩:=P;obtain ⟨m,rfl,D⟩:=R.out;refine ⟨_,rfl,?_⟩;refine st.var (w:= #[m.v,U (yO g x).2]) (by simp [ak,nI]) (λL G3 F5 C q5 st=> ?_) rfl rfl;have h:=aa Q C;have r:=aa l1 h;have K:RK F G3 b3 L g x c n t s p l f m:=⟨r,h _ _ q3,q5,A.le r,D.le C⟩;refine ⟨_,ld (st.le _ _ K.q3) rfl,_,st.ld1 rfl,by have:=H.p0;omega,_,rfl,ai (st.le _ _ K.q5),rfl,?_⟩;refine st.new λb7 F6 st=> ?_;refine st.put0 (w':=(f0 g x).arr pm m) rfl rfl (by simp [ak,nI]) λF7 st=> ?_;have W:sj (x.kind:Int) 8=((x.kind % 8:Nat):Int):=iT x.kind 8;refine ⟨_,ld (st.le _ _ K.q3) rfl,?_⟩;dsimp only;rw [W];refine ⟨λX=>DI K H ?_ st,λX=>DI K H ?_ st⟩
 ·rw [δ];omega
 ·rw [δ];omega
theorem wy (l:Φ) {n:Nat} (g:n<=6):∀(m v k:Nat),v+m=n->Sx n (iY l m v k)
 |0,v,k,_=>Sx.qa6 n _
 |m+1,v,k,h=>by unfold iY;have r:Sx n (tv v):=Sx.tv (by omega) g;exact (r.ap2 (wy l g m (v+1) _ (by omega))).ap2 ((wy l g m (v+1) k (by omega)).ap2 (r.ap2 (Sx.qa6 n nk)))
theorem mh {b n:Nat} (g:n<=6):Sx n (jb b n):=by
 unfold jb;split
 ·exact Sx.qa6 n nk
 ·rename_i h;have r:b / 6 % n<n:=VU _ (by omega);split
  ·exact Sx.tv r g
  ·split
   ·exact (Sx.tv r g).ap2 (Sx.qa6 n nk)
   ·exact wy _ g n 0 0 (by omega)
theorem Sx.brl {n:Nat} {t:Tr} (h:Sx n t) (g:n<=6):(pj t).1.length<=63:=by have:(pj t).1.length=(aU t).length:=aO _;rw [this];exact h.len g
structure Rw where
 qa5:Nat
 n:Nat
 fam:Δ
 lines:List Ln
 rules:List Ru
structure Gg (F:PH) (v:Γ) (x:Rw):Prop where
 ex:∃sf sl sr:Sl,v= #[vB x.qa5,vB x.n,sf.v,sl.v,sr.v]/\RdS F sf 1 (x.fam.map vB)/\RL F sl x.lines/\RL F sr x.rules
 b:x.qa5<256
 n:x.n<256
theorem Gg.le {F G:PH} {v:Γ} {x:Rw} (h:Gg F v x) (g:F.le G):Gg G v x:=by obtain ⟨⟨H,D,B,r,w,J,C⟩,E,A⟩:=h;exact ⟨⟨H,D,B,r,w.le g,J.le g,C.le g⟩,E,A⟩
def bF (x:Rw):Bool:=decide (x.qa5 % 8<6)
def fz (x:Rw):List ο:=([⟨#[83]⟩,⟨#[80]⟩,⟨#[81]⟩]:List ο).take (1+x.n / 4 % 3)
def je (x:Rw):List ο:=([⟨#[65]⟩,⟨#[66]⟩,⟨#[67]⟩]:List ο).take (x.n % 4)
def cU (x:Rw):Gr:=if bF x=nk then cj (x.qa5 % 8) else {dZ (fz x) with qa4:=je x,qa0:=[bA ⟨#[102,105,114,115,116]⟩ 0 [⟨nk,0⟩]]}
def yV (x:Rw) (n:Nat):Tr:=iY (x.fam.map λk:Nat=>(k:Int)) n 0 0
def famG (x:Rw) (g:Gr):Gr:=if x.fam≠[]/\(pj (yV x g.qa4.length)).2≠0 then {g with fam:=pj (yV x g.qa4.length)} else g
def cN (x:Rw):Nat:=if bF x=nk then 6 else 10
def dv (x:Rw) (l:List Ln) (g:Gr):Gr:=l.foldl (λg y=>lineG g y (bF x)) g
def dL (l:List Ru) (g:Gr):Gr:=l.foldl ruleG g
def aS (x:Rw):Gr:=dL (x.rules.take 6) (dv x (x.lines.take (cN x)) (famG x (cU x)))
structure Bd (g:Gr) (np nl:Nat):Prop where
 c:g.qa4.length<=3
 n0:g.qa1.length≠0
 n:g.qa1.length<=3
 p0:g.qa0.length≠0
 p:g.qa0.length<=np
 t:g.qa2.length=11
 l:g.lvs.length<=nl
 lp:∀y∈g.lvs,y.ps.length<=2
 f:g.fils.length<=nl
theorem IQ {k:Nat} (r:k<6):Bd (cj k) 8 4:=by
  have h:k=0\/k=1\/k=2\/k=3\/k=4\/k=5:=by omega
  rcases h with rfl|rfl|rfl|rfl|rfl|rfl
  all_goals
    refine ⟨by decide,by decide,by decide,by decide,by decide,rfl,by decide,λy g=> ?_,by decide⟩;first
      |(have:=g;cases this;done)
      | (rcases tS.1 g with rfl|g
         · decide
         rcases tS.1 g with rfl|g
         · decide
         rcases tS.1 g with rfl|g
         · decide
         cases g)
theorem rO (x:Rw):Bd (cU x) 8 4:=by
 unfold cU;split
 ·rename_i h;exact IQ (ζ h)
 ·have w:(fz x).length=1+x.n / 4 % 3:=by unfold fz;rw [z9];simp;omega
  have r:(je x).length<=3:=by unfold je;rw [z9];simp;omega
  exact ⟨r,by show (fz x).length≠0;omega,by show (fz x).length<=3;omega,by show (1:Nat)≠0;decide,by show 1<=8;decide,rfl,by show 0<=4;decide,λy g=>(by cases g),by show 0<=4;decide⟩
theorem IR {x:Rw} {g:Gr} {a b:Nat} (h:Bd g a b):Bd (famG x g) a b:=by
 unfold famG;split
 ·exact ⟨h.c,h.n0,h.n,h.p0,h.p,h.t,h.l,h.lp,h.f⟩
 ·exact h
theorem DJ {g:Gr} {a b:Nat} (h:Bd g a b) (y:Ln) (r:Bool):Bd (lineG g y r) (a+1) b:=by
 have w:=h.p;unfold lineG;split
 ·exact ⟨h.c,h.n0,h.n,h.p0,by omega,h.t,h.l,h.lp,h.f⟩
 ·exact ⟨h.c,h.n0,h.n,by show (g.qa0++_).length≠0;rw [tT];have:=h.p0;omega,by show (g.qa0++[_]).length<=_;rw [tT,Ub];omega,h.t,h.l,h.lp,h.f⟩
theorem Bz {g:Gr} {a b:Nat} (h:Bd g a b) (y:Fi):Bd (ki g y) a (b+1):=by
 have r:=h.f;have w:=h.l;unfold ki;split
 ·exact ⟨h.c,h.n0,h.n,h.p0,h.p,h.t,by show g.lvs.length<=_;omega,h.lp,by show (g.fils++[_]).length<=_;rw [tT,Ub];omega⟩
 ·exact ⟨h.c,h.n0,h.n,h.p0,h.p,h.t,by omega,h.lp,by omega⟩
theorem DK {g:Gr} {a b:Nat} (h:Bd g a b) (y:Ru):Bd (ruleG g y) a (b+1):=by
 have w:=h.f;have A:=h.l;unfold ruleG;split
 ·unfold nR;split
  ·exact ⟨h.c,h.n0,h.n,h.p0,h.p,h.t,by omega,h.lp,by omega⟩
  ·refine ⟨h.c,h.n0,h.n,h.p0,h.p,h.t,by show (g.lvs++[_]).length<=_;rw [tT,Ub];omega,λz r=> ?_,by show g.fils.length<=_;omega⟩;rcases vj.1 r with r|r
   ·exact h.lp z r
   ·rw [vu.1 r];simp only [wg];split<;>simp
 ·split
  ·exact Bz h _
  ·split
   ·exact Bz h _
   ·split
    ·exact Bz h _
    ·unfold tokG;exact ⟨h.c,h.n0,h.n,h.p0,h.p,by show (g.qa2.modify _ _).length=11;rw [List.length_modify];exact h.t,by show g.lvs.length<=_;omega,h.lp,by show g.fils.length<=_;omega⟩
theorem rP {x:Rw}:∀(l:List Ln) {g:Gr} {a b:Nat},Bd g a b->Bd (dv x l g) (a+l.length) b
 |[],g,a,b,h=>h
 |y::l,g,a,b,h=>by have:=rP (x:=x) l (DJ h y (bF x));rw [wg,show a+(l.length+1)=a+1+l.length by omega];exact this
theorem rQ:∀(l:List Ru) {g:Gr} {a b:Nat},Bd g a b->Bd (dL l g) a (b+l.length)
 |[],g,a,b,h=>h
 |y::l,g,a,b,h=>by have:=rQ l (DK h y);rw [wg,show b+(l.length+1)=b+1+l.length by omega];exact this
theorem Bd.rh {g:Gr} {a b:Nat} (h:Bd g a b) (M:a<=1000) (H:b<=1000) {F:PH} {y:Ru} {v:Γ} (B:Mem.rep F y v):RH g y:=by obtain ⟨-,r,A,G,E,L⟩:=B;have J:=h.c;have K:=h.n;have O:=h.p;have N:=h.t;have C:=h.l;have w:=h.f;exact ⟨r,A,G,E,by omega,h.p0,by omega,h.n0,by omega,by omega,by omega,λz D=>by have:=h.lp z D;omega,by omega,by have:=(mh (b:=y.cond) (n:=g.qa4.length) (by omega)).brl (by omega);show (pj (jb y.cond g.qa4.length)).1.length<=_;omega⟩
section
variable {F G F1:PH} {b1 b2 b4:Nat} {x:Rw} {g:Gr} {w:Γ} {sf sl sr:Sl}
structure WK (F G:PH) (b1:Nat) (x:Rw) (sf sl sr:Sl):Prop where
 lF:F.le G
 q1:G b1=V (Y #[vB x.qa5,vB x.n,sf.v,sl.v,sr.v] 26)
 rf:RdS G sf 1 (x.fam.map vB)
 rl:RL G sl x.lines
 rr:RL G sr x.rules
theorem WK.le {A:PH} (h:WK F G b1 x sf sl sr) (r:G.le A):WK F A b1 x sf sl sr:=⟨aa h.lF r,r _ _ h.q1,h.rf.le r,h.rl.le r,h.rr.le r⟩
theorem ME (K:WK F G b1 x sf sl sr) (r:GV G w g) (st:St G F1 [pt b4 (Y w 39),pt b2 (Y zG 39)]):sH b2 b4 (LR F g) F1:=by unfold sH;refine ⟨_,r.size,st.whole0,?_⟩;refine st.put1 (w':=w) r.size rfl r.st λA h=> ?_;exact ⟨_,r.size,h.whole1,⟨_,rfl,r.le h.le⟩,aa K.lF h.le⟩
theorem qhZ (l:List Ln) (y:Ln):dv x (l++[y]) g=lineG (dv x l g) y (bF x):=by simp [dv]
theorem qh0 (l:List Ru) (y:Ru):dL (l++[y]) g=ruleG (dL l g) y:=by simp [dL]
theorem MF {a:Nat} (K:WK F G b1 x sf sl sr) (B:GV G w g) (hb:Bd g a 4) (ha:a<=100) (st:St G F1 [pt b4 (Y w 39),pt b2 (Y zG 39)]):
  sI b1 b2 b4 (LR F (dL (x.rules.take 6) g)) F1:=by
 have er:=K.rr.len;unfold sI;refine bD (BW · b1 b2 b4 _) (min 6 x.rules.length) (λk E=>∃D w,WK F D b1 x sf sl sr/\GV D w (dL (x.rules.take k) g)/\St D E [pt b4 (Y w 39),pt b2 (Y zG 39)]) ⟨G,w,K,B,st⟩ ?_;rintro k E N hk ⟨D,w,K,B,st⟩ next;unfold BW;have h:k=min 6 x.rules.length->sH b2 b4 (LR F (dL (x.rules.take 6) g)) E:=λe=>by
  have X:x.rules.take k=x.rules.take 6:=by
   rw [e];by_cases R:6<=x.rules.length
   ·rw [YO R]
   ·rw [Nat.min_eq_right (by omega),wB,zh (by omega)]
  rw [<- X];exact ME K B st
 refine ⟨_,ld (st.le _ _ K.q1) rfl,λP=>⟨λQ=> ?_,λQ=>h (by omega)⟩,λP=>h (by omega)⟩;have L:k<x.rules.length:=by omega
 have H:=N5 L;generalize x.rules[k]=y at H;obtain ⟨ad,cc,M,C,J⟩:=K.rr.get (by decide) H;have A:=rQ (x.rules.take k) hb;rw [z9] at A;refine ⟨_,B.size,st.whole0,_,ld (st.le _ _ K.q1) rfl,_,M,by omega,by omega,cc,Mem.len J,by rw [N4];exact aN st.le C,?_⟩;refine st.run (By B J (A.rh (by omega) (by omega) J) (by have:=A.c;omega)) λ_ G2 F2 W l2 st=> ?_;obtain ⟨O,rfl,r⟩:=W;have K:=K.le l2;refine ⟨_,rfl,ld (st.le _ _ K.q1) rfl,?_⟩;refine st.put0 (w':=O) r.size B.size r.st λF3 st=> ?_;rw [aC (n:=min 6 x.rules.length) (by omega) (by omega)];refine next _ (by omega) ⟨G2,O,K,?_,st⟩;rw [bE H,qh0];exact r
theorem DL (K:WK F G b1 x sf sl sr) (B:GV G w g) (hb:Bd g 8 4) (st:St G F1 [pt b4 (Y w 39),pt b2 (Y zG 39)]):
  w9 b1 b2 (x.qa5:Int) b4 ((cN x:Nat):Int) (LR F (dL (x.rules.take 6) (dv x (x.lines.take (cN x)) g))) F1:=by
 have el:=K.rl.len;have hm:cN x<=10:=by unfold cN;split<;>decide
 unfold w9;refine bD (BX · b1 b2 (x.qa5:Int) b4 ((cN x:Nat):Int) _) (min (cN x) x.lines.length) (λk E=>∃D w,WK F D b1 x sf sl sr/\GV D w (dv x (x.lines.take k) g)/\St D E [pt b4 (Y w 39),pt b2 (Y zG 39)]) ⟨G,w,K,B,st⟩ ?_;rintro k E N hk ⟨D,w,K,B,st⟩ next;unfold BX;have h:=rP (x:=x) (x.lines.take k) hb;rw [z9] at h;have r:k=min (cN x) x.lines.length->sI b1 b2 b4 (LR F (dL (x.rules.take 6) (dv x (x.lines.take (cN x)) g))) E:=λe=>by
  have X:x.lines.take k=x.lines.take (cN x):=by
   rw [e];by_cases R:cN x<=x.lines.length
   ·rw [YO R]
   ·rw [Nat.min_eq_right (by omega),wB,zh (by omega)]
  rw [<- X];exact MF K B h (by omega) st
 refine ⟨_,ld (st.le _ _ K.q1) rfl,λP=>⟨λQ=> ?_,λQ=>r (by omega)⟩,λP=>r (by omega)⟩;have J:k<x.lines.length:=by omega
 have H:=N5 J;generalize x.lines[k]=y at H;obtain ⟨ad,cc,L,C,O⟩:=K.rl.get (by decide) H;refine ⟨_,B.size,st.whole0,_,ld (st.le _ _ K.q1) rfl,_,L,by omega,by omega,cc,Mem.len O,by rw [N4];exact aN st.le C,?_⟩;have ek:decide (sj (x.qa5:Int) (8:Int)<6)=bF x:=by unfold bF;rw [show sj (x.qa5:Int) (8:Int)=((x.qa5 % 8:Nat):Int) from iT x.qa5 8];exact decide_eq_decide.2 (by omega)
 rw [ek];refine st.run (Gc (cj:=bF x) B O (by have:=h.c;omega) (by have:=h.p;omega) h.n0 (by have:=h.n;omega)) λ_ G2 F2 W l2 st=> ?_;obtain ⟨M,rfl,A⟩:=W;have K:=K.le l2;refine ⟨_,rfl,ld (st.le _ _ K.q1) rfl,?_⟩;refine st.put0 (w':=M) A.size B.size A.st λF3 st=> ?_;rw [aC (n:=min (cN x) x.lines.length) (by omega) (by omega)];refine next _ (by omega) ⟨G2,M,K,?_,st⟩;rw [bE H,qhZ];exact A
theorem DM (K:WK F G b1 x sf sl sr) (O:GV G w g) (N:Bd g 8 4) (st:St G F1 [pt b4 (Y w 39),pt b2 (Y zG 39)]):
  xa b1 b2 (x.qa5:Int) b4 ((cN x:Nat):Int) (LR F (dL (x.rules.take 6) (dv x (x.lines.take (cN x)) (famG x g)))) F1:=by
 have L:=O;obtain ⟨c,n,t,s,p,l,f,rfl,B⟩:=O;have W:=B.c.len;have M:=K.rf.len;rw [ub,xF] at M;have X:g.qa4.length<=6:=by have:=N.c;omega
 unfold xa;refine ⟨_,ld (st.le _ _ K.q1) rfl,_,st.ld0 rfl,?_⟩;dsimp only;rw [W];have J:RdS G sf 1 ((x.fam.map λk:Nat=>(k:Int)).map (rV .u8)):=by rw [X3];exact K.rf
 refine st.run (P:=λr G=>BZ (pj (yV x g.qa4.length)) r G) ((oS X J).mono λr F' ⟨u,t,E,⟨C,h3⟩,h4,h5⟩=>⟨⟨u,E,by subst h3;exact h4⟩,h5⟩) λ_ G2 F2 hr Q st=> ?_;obtain ⟨_,rfl,hw⟩:=hr;obtain ⟨m,rfl,R⟩:=hw.out;have K:=K.le Q;refine ⟨_,rfl,?_⟩;refine st.var (w:= #[m.v,U (pj (yV x g.qa4.length)).2]) (by simp [ak,nI]) (λb6 G3 F3 H q6 st=> ?_) rfl rfl;have K:=K.le H;have A:=aa Q H;have no:famG x g=g->sJ b1 b2 (x.qa5:Int) b4 ((cN x:Nat):Int) b6 mD (LR F (dL (x.rules.take 6) (dv x (x.lines.take (cN x)) (famG x g)))) F3:=λe=>by rw [e];unfold sJ;exact ⟨λh=>(by cases h),λ_=>DL K (L.le A) N st⟩
 refine ⟨_,ld (st.le _ _ K.q1) rfl,λE=>⟨_,ld (st.le _ _ q6) rfl,?_⟩,λE=>no ?_⟩
 ·by_cases C:(pj (yV x g.qa4.length)).2≠0
  ·dsimp only;rw [decide_eq_true C];have e:famG x g={g with fam:=pj (yV x g.qa4.length)}:=by unfold famG;rw [if_pos ⟨λe=>by rw [e] at M;simp at M;omega,C⟩]
   have D:=IR (x:=x) N;rw [e] at D ⊢;unfold sJ;refine ⟨λ_=>⟨_,rfl,ai (st.le _ _ q6),?_⟩,λh=>(by cases h)⟩;refine st.putR0 (o:=1) (w':=Gr.arr {g with fam:=pj (yV x g.qa4.length)} c m t s p l f) rfl (by simp [ak,nI]) (by show 1+2<=9;decide) rfl λF4 st=> ?_;exact DL K ⟨c,m,t,s,p,l,f,rfl,B.c.le A,R.le H,B.t.le A,B.s.le A,B.p.le A,B.l.le A,B.f.le A⟩ D st
  ·dsimp only;rw [decide_eq_false C];exact no (by unfold famG;rw [if_neg (λh=>C h.2)])
 ·unfold famG;rw [Υ];rintro ⟨h,_⟩;exact h (Wm (by omega))
theorem qh1 {v:Γ} (hx:Gg F v x):ν 64 #[nQ v] F (LR F (aS x)):=by
 obtain ⟨⟨sf,sl,sr,rfl,h1,h2,h3⟩,a4,hn⟩:=hx;refine qf5 ?_;unfold Wf;refine (St.start F).newG λb1 G1 F1 X q1 _ st=> ?_;have K:WK F G1 b1 x sf sl sr:=⟨X,q1,h1.le X,h2.le X,h3.le X⟩;clear q1;refine st.new λb2 F2 st=> ?_;have e8:sj (x.qa5:Int) (8:Int)=((x.qa5 % 8:Nat):Int):=iT x.qa5 8;refine ⟨_,ld (st.le _ _ K.q1) rfl,_,ld (st.le _ _ K.q1) rfl,?_⟩;rw [e8];refine st.run (Bv (x.qa5 % 8) _) λ_ G2 F3 Q l2 st=> ?_;obtain ⟨w,rfl,W⟩:=Q;have K:=K.le l2;refine ⟨_,rfl,?_⟩;refine st.new λb4 F4 st=> ?_;refine st.put0 (w':=w) W.size rfl W.st λF5 st=> ?_;have A:=rO x;unfold aS;refine ⟨λhk=> ?_,λhk=> ?_⟩
 ·have h:bF x=mD:=by unfold bF;exact η (by omega)
  have e:cU x={dZ (fz x) with qa4:=je x,qa0:=[bA ⟨#[102,105,114,115,116]⟩ 0 [⟨nk,0⟩]]}:=by unfold cU;rw [h,Υ (by decide)]
  rw [e] at A ⊢;have hm:cN x=10:=by unfold cN;rw [h,Υ (by decide)]
  refine st.newG λC G3 F6 l3 a0 _ st=> ?_;have K:=K.le l3;have ei:i64.wrap ((1:Int)+(sj (i64.wrap (u8.wrap (Int.tdiv (x.n:Int) (4:Int)))) (3:Int)))=((1+x.n / 4 % 3:Nat):Int):=by rw [Zc (by omega),show (x.n:Int) / 4=((x.n / 4:Nat):Int) by omega,DE (by omega),show sj (i64.wrap ((x.n / 4:Nat):Int)) (3:Int)=((x.n / 4 % 3:Nat):Int) from wN (b:=3) (by omega),aJ (by omega)];omega
  have ej:i64.wrap (sj (x.n:Int) (4:Int))=((x.n % 4:Nat):Int):=by rw [show sj (x.n:Int) (4:Int)=((x.n % 4:Nat):Int) from iT x.n 4,aJ (by omega)]
  refine ⟨_,ld (st.le _ _ K.q1) rfl,?_⟩;dsimp only;rw [ei,N4];refine ⟨by omega,by omega,by show _<=3;omega,?_⟩;have N:RdS G3 (t7 (V (oB C 0 I)) 3 3) 1 (([⟨#[83]⟩,⟨#[80]⟩,⟨#[81]⟩]:List ο).map ph):=RdS.new a0 rfl rfl (ru _);have M:RL G3 (Sl.cut (t7 (V (oB C 0 I)) 3 3) 1 0 (1+x.n / 4 % 3) 3) (fz x):=by refine RL.strs.2 ?_;have:=N.cut (l:=0) (r:=1+x.n / 4 % 3) (m:=3) (by omega) (by show _<=3;omega) (by omega);rw [Wp,Vu,xF,VV,<- List.map_take] at this;exact this
  refine st.run (ur M) λ_ G4 F7 Q l4 st=> ?_;obtain ⟨c,n,t,rfl,k1,k2,k3,k4⟩:=Q;have K:=K.le l4;refine ⟨_,rfl,?_⟩;refine st.put0 (w':=(dZ (fz x)).arr c n t (Sl.cut (t7 (V (oB C 0 I)) 3 3) 1 0 (1+x.n / 4 % 3) 3) pm pm pm) rfl W.size (by simp [ak,nI]) λF8 st=> ?_;refine st.newG λJ G5 F9 l5 a1 _ st=> ?_;have K:=K.le l5;refine ⟨_,ld (st.le _ _ K.q1) rfl,?_⟩;dsimp only;rw [ej,N4];refine ⟨by omega,by omega,by show _<=3;omega,?_⟩;have L:RdS G5 (t7 (V (oB J 0 I)) 3 3) 1 (([⟨#[65]⟩,⟨#[66]⟩,⟨#[67]⟩]:List ο).map ph):=RdS.new a1 rfl rfl (ru _);have O:RL G5 (Sl.cut (t7 (V (oB J 0 I)) 3 3) 1 0 (x.n % 4) 3) (je x):=by refine RL.strs.2 ?_;have:=L.cut (l:=0) (r:=x.n % 4) (m:=3) (by omega) (by show _<=3;omega) (by omega);rw [Wp,Vu,xF,VV,<- List.map_take] at this;exact this
  generalize Sl.cut (t7 (V (oB C 0 I)) 3 3) 1 0 (1+x.n / 4 % 3) 3=s at*;generalize Sl.cut (t7 (V (oB J 0 I)) 3 3) 1 0 (x.n % 4) 3=c' at*;refine st.set0 (w':=Gr.arr {dZ (fz x) with qa4:=je x} c' n t s pm pm pm) (vr rfl) rfl λb0 st=> ?_;refine ⟨pm,st.ld0 rfl,?_⟩;refine st.runv (BY 0 _) λG6 b3 l6 st=> ?_;refine ⟨_,rfl,st.ld0 rfl,rfl,?_⟩;refine st.newG λa6 G7 a8 l7 a2 _ st=> ?_;have a3:RL G7 (t7 (V (oB a6 0 I)) 1 1) [(⟨nk,0⟩:Sy)]:=⟨[_],.cons rfl .nil,RdS.new a2 rfl rfl (ru _)⟩;refine st.run (uB ⟨#[102,105,114,115,116]⟩ 0 a3) λ_ G8 a7 Q l8 st=> ?_;obtain ⟨w2,rfl,B⟩:=Q;refine ⟨_,rfl,st.ld0 rfl,Mem.len B,?_⟩;obtain ⟨_,_,T⟩:=Sm;refine (st.nilOwn 64 13).push0 T (c:=w2) (Mem.len B) (Mem.st B) (by decide) λs' G9 b5 l9 st b6=> ?_;obtain ⟨R,P,⟨H,hA,hH⟩,st⟩:=st.pin;have a5:RL R s' [bA ⟨#[102,105,114,115,116]⟩ 0 [(⟨nk,0⟩:Sy)]]:=⟨[w2],.cons (Mem.le (aa l9 P) B) .nil,by rw [cI];exact (bO.rd hA).le hH⟩;refine st.set0 (w':=Gr.arr {dZ (fz x) with qa4:=je x,qa0:=[bA ⟨#[102,105,114,115,116]⟩ 0 [⟨nk,0⟩]]} c' n t s s' pm pm) (vr rfl) rfl λa9 st=> ?_;have E:G5.le R:=aa l6 (aa l7 (aa l8 (aa l9 P)));have D:=aa l5 E;have:=DM (K.le E) (g:={dZ (fz x) with qa4:=je x,qa0:=[bA ⟨#[102,105,114,115,116]⟩ 0 [⟨nk,0⟩]]}) ⟨c',n,t,s,s',pm,pm,rfl,O.le E,k2.le D,k3.le D,k4.le D,a5,.nil _,.nil _⟩ A st;rw [hm] at this ⊢;exact this
 ·have h:bF x=nk:=by unfold bF;exact ε (by omega)
  have e:cU x=cj (x.qa5 % 8):=by unfold cU;rw [h,Χ rfl]
  rw [e] at A ⊢;have hm:cN x=6:=by unfold cN;rw [h,Χ rfl]
  have h6:x.qa5 % 8 % 6=x.qa5 % 8:=Nat.mod_eq_of_lt (by omega);rw [h6] at W;have:=DM K W A st;rw [hm] at this ⊢;exact this
end
theorem nS {n:Nat}:∀(t:Tr) (S:List Tr),(∀x∈S,∃v l h,x=qa7 v l h/\v<n)->dS n t->∀x∈tY t S,∃v l h,x=qa7 v l h/\v<n
 |qa6 _,S,hS,_=>hS
 |qa7 v l h,S,hS,⟨h1,h2,h3⟩=>by
  unfold tY;split
  ·exact hS
  ·intro x g;rcases vj.1 g with g|g
   ·exact nS h _ (nS l S hS h2) h3 x g
   ·rw [vu.1 g];exact ⟨v,l,h,rfl,h1⟩
theorem Sx.fit {n:Nat} {t:Tr} (h:Sx n t) (w:n<=6):iB (pj t) n:=by refine ⟨El h.1 (by have:=h.len w;omega),λb A=> ?_⟩;obtain ⟨x,g,rfl⟩:=xv.1 (show b∈(aU t).map (br (aU t)) from A);obtain ⟨v,l,r,rfl,B⟩:=nS t [] (λx g=>(by cases g)) h.2 x g;show (v:Int)<n;omega
theorem IS {t:Tr} (h:(pj t).2=0):t=qa6 mD:=by
 cases t with
 |qa6 b=>cases b with
  |false=>rfl
  |true=>cases h
 |qa7 v l r=>have:((num (aU (qa7 v l r)) (qa7 v l r):Nat):Int)=0:=h;simp only [num] at this;omega
def SxD (n:Nat) (d:wa):Prop:=∃t,Sx n t/\d=pj t
theorem SxD.fit {n:Nat} {d:wa} (h:SxD n d) (g:n<=6):iB d n:=by obtain ⟨t,h,rfl⟩:=h;exact h.fit g
theorem aY (n:Nat):SxD n dy:=⟨_,Sx.qa6 n nk,rfl⟩
instance (i:Nat) (x:Nd):Decidable (za i x):=by unfold za;infer_instance
theorem wz {l:List Nd} (g:l≠[]) (r:∀i:Fin l.length,za i.1 (l[i.1]'i.2)) (A:(w8 l).Nodup) (w:∀i:Fin (l.length - 1),(i.1:Int)∈w8 l):GoodL l:=
 ⟨g,λi x h=>by obtain ⟨hi,rfl⟩:=N6.1 h;exact r ⟨i,hi⟩,A,λi hi=>w ⟨i,by omega⟩⟩
theorem wA {l:List Nd} (h:GoodL l) (g:l.length<=512):fJ l=0:=by unfold fJ;rw [Υ (by omega),Χ h]
theorem DN:GoodL lZ.pat:=wz (by decide) (by decide) (by decide) (by decide)
theorem BA:GoodL jE.pat:=wz (by decide) (by decide) (by decide) (by decide)
theorem qh2:GoodL gN.pat:=wz (by decide) (by decide) (by decide) (by decide)
theorem MH:Xn lZ.pat (bs lZ.smp):=by
 obtain ⟨K,h⟩:=iJ DN;unfold Xn;generalize bN lZ.pat=t at h;have w:lZ.pat[lZ.pat.length - 1]? =V ⟨2,0,0,0,2⟩:=rfl;have A:lZ.pat[0]? =V ⟨1,97,122,0,0⟩:=rfl;have B:lZ.pat[2]? =V ⟨4,0,0,1,0⟩:=rfl;cases h with
 |emp g r=>rw [w] at g;cases g;cases r
 |rng g r=>rw [w] at g;cases g;cases r
 |alt g r=>rw [w] at g;cases g;cases r
 |rep g r=>rw [w] at g;cases g;cases r
 | @seq _ a b x t u J nb g r E H F G=>
  rw [w] at g;cases g;obtain rfl:a=0:=by have:(0:Int)=a:=E;omega
  obtain rfl:b=2:=by have:(2:Int)=b:=H;omega
  refine ⟨[120],[],rfl,?_,?_⟩
  ·cases F with
   |emp g r=>rw [A] at g;cases g;cases r
   |seq g r=>rw [A] at g;cases g;cases r
   |alt g r=>rw [A] at g;cases g;cases r
   |rep g r=>rw [A] at g;cases g;cases r
   | @rng _ lo hi x g r D C _ _=>
    rw [A] at g;cases g;refine ⟨120,rfl,?_,?_⟩
    ·have:(97:Int)=lo:=D;omega
    ·have:(122:Int)=hi:=C;omega
  ·cases G with
   |emp g r=>rw [B] at g;cases g;cases r
   |seq g r=>rw [B] at g;cases g;cases r
   |alt g r=>rw [B] at g;cases g;cases r
   |rng g r=>rw [B] at g;cases g;cases r
   |rep g r E h=>exact .nil
abbrev rR (t:Tk):Tk:={t with cond:=dy}
def Vh (done:List ο) (t:Tk):Prop:=t.name≠emp/\t.name ∉ done/\0<=t.cls/\t.cls<=2/\(t.lit≠emp->t.smp=emp/\t.pat=[])/\(t.lit=emp->fJ t.pat=0/\(t.cls=0->t.smp≠emp/\Xn t.pat (bs t.smp))/\(t.cls≠0->t.smp=emp))
def IT (done:List ο):List Tk->Prop
 |[]=>True
 |t::r=>Vh done t/\IT (done++[t.name]) r
theorem y4 {n:Nat}:∀(l:List Tk) (g:List ο),IT g (l.map rR)->(∀t∈l,iB t.cond n)->fV n g l
 |[],_,_,_=>trivial
 |t::l,g,⟨⟨h1,h2,h3,h4,h5,h6⟩,h⟩,hf=>⟨⟨h1,h2,h3,h4,hf t (by simp),h5,h6⟩,y4 l _ h λx r=>hf x (by simp [r])⟩
theorem jf {g:List ο} {x:ο} (r:x≠emp) (w:x ∉ g):Vh g (YW x):=⟨r,w,Vd 0,by show (0:Int)<=2;decide,λ_=>⟨rfl,rfl⟩,λh=>absurd h r⟩
theorem IU:IT [] fi:=by
 refine ⟨⟨by decide,by decide,by decide,by decide,λh=>absurd rfl h,λ_=>⟨wA DN (by decide),λ_=>⟨by decide,MH⟩,λh=>absurd rfl h⟩⟩,jf (by decide) (by decide),jf (by decide) (by decide),jf (by decide) (by decide),jf (by decide) (by decide),jf (by decide) (by decide),jf (by decide) (by decide),jf (by decide) (by decide),jf (by decide) (by decide),?_,?_,trivial⟩
 ·exact ⟨by decide,by decide,by decide,by decide,λh=>absurd rfl h,λ_=>⟨wA BA (by decide),λh=>(by cases h),λ_=>rfl⟩⟩
 ·exact ⟨by decide,by decide,by decide,by decide,λh=>absurd rfl h,λ_=>⟨wA qh2 (by decide),λh=>(by cases h),λ_=>rfl⟩⟩
def abc:List ο:=[⟨#[65]⟩,⟨#[66]⟩,⟨#[67]⟩]
structure PrI (n nn:Nat) (p:Pr):Prop where
 cond:SxD n p.cond
 left:0<=p.left/\p.left<nn
 rl:p.right.length<=5
 right:∀s∈p.right,0<=s.i/\(s.t=nk->s.i<9)/\(s.t=mD->s.i<nn)
 rank: -1<=p.rank/\p.rank<=1
 lay:p.lay.length<=2
 det:lu p
 nm:p.name≠emp/\p.name.size<=13
structure MG (g:Gr):Prop where
 cs:∃n,n<=3/\g.qa4=abc.take n
 fam:∃t,Sx g.qa4.length t/\t≠qa6 mD/\g.fam=pj t
 qa1:bG g.qa1/\∀s∈g.qa1,s.size<=10
 start:g.start=0
 qa2:g.qa2.map rR=fi/\∀t∈g.qa2,SxD g.qa4.length t.cond
 names:(g.qa0.map Pr.name).Nodup/\∀p∈g.qa0,∀k,g.qa0.length<=k->k<100->p.name≠bh k
 qa0:∀p∈g.qa0,PrI g.qa4.length g.qa1.length p
 lvs:eH g [] g.lvs/\∀l∈g.lvs,SxD g.qa4.length l.cond
 fils:∀x∈g.fils,cq g x/\SxD g.qa4.length x.cond/\x.qa2.length<=2
theorem MG.tok {g:Gr} (h:MG g) {i:Nat} (hi:i<9):∃t,g.qa2[i]? =V t/\t.cls=0:=by
 have C:g.qa2.length=11:=by have:=congrArg List.length h.qa2.1;rw [ub] at this;exact this
 have w:=N5 (show i<g.qa2.length by omega);refine ⟨_,w,?_⟩;have r:=congrArg (λl=>l[i]?) h.qa2.1;simp only [yw,w,VD] at r;have A:∀j:Fin 9,∀t,fi[j.1]? =V t->t.cls=0:=by
  intro j t B;have:∀j:Fin 9,(fi[j.1]?).map Tk.cls=V 0:=by decide
  have:=this j;rw [B] at this;exact yR this
 exact A ⟨i,hi⟩ (rR _) r.symm
theorem MG.sym {g:Gr} (h:MG g) {s:Sy} (r:0<=s.i/\(s.t=nk->s.i<9)/\(s.t=mD->s.i<g.qa1.length)):mB g s:=by refine ⟨r.1,r.2.2,λw=>h.tok (by have:=r.2.1 w;omega)⟩
theorem y5 {g:Gr}:∀(l:List Pr) (r:List ο),(∀p∈l,jj g p/\p.name≠emp/\iB p.cond g.qa4.length/\-1<=p.rank/\p.rank<=1/\lu p)->(r++l.map Pr.name).Nodup->eG g r l=0
 |[],_,_,_=>rfl
 |p::l,r,h,hn=>by
  obtain ⟨B,C,H,G,F,D⟩:=h p (by simp);have w:p.name ∉ r:=λA=>by rw [xA,VB] at hn;exact hn.2.2 _ A _ (by simp) rfl
  unfold eG;rw [Υ (μ B),Υ (μ ⟨C,w,H,G,F,D⟩)];refine y5 l _ (λq E=>h q (by simp [E])) ?_;rw [xZ];exact hn
theorem Sc {n:Nat} (r:n<=3):(∀s∈abc.take n,sg s)/\bG (abc.take n)/\(abc.take n).length<=3:=by
 have h:n=0\/n=1\/n=2\/n=3:=by omega
 have ok:∀s∈abc,sg s:=by
  intro s g;unfold sg;rcases tS.1 g with rfl|g
  ·decide+kernel
  rcases tS.1 g with rfl|g
  ·decide+kernel
  rcases tS.1 g with rfl|g
  ·decide+kernel
  cases g
 refine ⟨λs g=>ok s (YK g),?_,by rw [z9];omega⟩;unfold bG;rcases h with rfl|rfl|rfl|rfl<;>decide
theorem MG.ok {g:Gr} {a b:Nat} (h:MG g) (w:Bd g a b) (ha:a<=2000) (R:b<=2000):OkG g:=by
 obtain ⟨n,M,D⟩:=h.cs;have G:=w.c;have O:=w.p;have J:=w.n;have K:=w.t;have Q:=w.l;have P:=w.f;obtain ⟨t,B,C,E⟩:=h.fam;obtain ⟨N,F,o3⟩:=Sc M;refine ⟨?_,⟨by rw [D];exact N,by rw [D];exact F,by rw [E];exact B.fit (by omega),λe=>C (IS (by rw [<- E];exact e))⟩,?_,⟨h.qa1.1,by rw [h.start];exact Vd 0,by rw [h.start];have:=w.n0;omega⟩,?_,h.lvs.1,λx L=>(h.fils x L).1⟩
 ·unfold dM;rw [Bool.or_eq_false_iff];refine ⟨η (by omega),?_⟩;rw [List.any_eq_false];intro p A;have W:=(h.qa0 p A).rl;have X:=(h.qa0 p A).lay;rw [δ];omega
 ·refine y4 _ _ ?_ λt B=>(h.qa2.2 t B).fit (by omega);rw [h.qa2.1];exact IU
 ·refine y5 _ _ (λp A=> ?_) (by rw [zB];exact h.names.1);have r:=h.qa0 p A;exact ⟨⟨h.sym ⟨r.left.1,λh=>(by cases h),λ_=>r.left.2⟩,λs H=>h.sym (r.right s H)⟩,r.nm.1,r.cond.fit (by omega),r.rank.1,r.rank.2,r.det⟩
theorem MG.sz {g:Gr} {a b:Nat} (h:MG g) (D:Bd g a b):Sz g:=by
 refine ⟨λs r=> ?_,λt B=> ?_,λl E=> ?_,λf C=> ?_⟩
 ·obtain ⟨n,F,A⟩:=h.cs;rw [A] at r;have:∀s∈abc,s.size<=1000000000:=by decide
  exact this s (YK r)
 ·have:rR t∈fi:=by rw [<- h.qa2.1];exact List.mem_map_of_mem B
  have w:∀u∈fi.map Tk.smp,u.size<=100000:=by decide
  exact w _ (xv.2 ⟨_,this,rfl⟩)
 ·have:=D.lp l E;omega
 ·have:=(h.fils f C).2.2;omega
theorem eK {g g':Gr} (A:g'.qa4.length=g.qa4.length) (B:g.qa0.length<=g'.qa0.length):∀(l:List Lv) (r:Φ),eH g r l->eH g' r l
 |[],_,_=>trivial
 |x::l,r,⟨⟨h1,h2,h3,h4,h5⟩,h⟩=>⟨⟨h1,h2,by rw [A];exact h3,λp w=>⟨(h4 p w).1,by have:=(h4 p w).2;omega⟩,h5⟩,eK A B l _ h⟩
theorem BB {g:Gr} {B:List Pr} {x:Fi} (h:cq g x):cq {g with qa0:=g.qa0++B} x:=by
 refine ⟨h.1,?_⟩;rcases h.2 with ⟨k,⟨a,b,c,p,q,w,A,C⟩,r⟩|h|h
 ·exact .inl ⟨k,⟨a,b,c,p,q,by rw [zM (N6.1 w).1];exact w,by rw [zM (N6.1 A).1];exact A,C⟩,r⟩
 ·exact .inr (.inl h)
 ·exact .inr (.inr h)
theorem qhE {i k:Nat} (hi:i<100) (B:k<100) (h:bh i=bh k):i=k:=by
 have g:(#[112,UInt8.ofNat (97+i)]:Array UInt8)= #[112,UInt8.ofNat (97+k)]:=congrArg ByteArray.data h;have r:=congrArg (λa=>a[1]?) g;have A:UInt8.ofNat (97+i)=UInt8.ofNat (97+k):=by simpa using r
 have w:=congrArg UInt8.toNat A;simp at w;omega
theorem MG.line {g:Gr} (h:MG g) {p:Pr} (C:p.name=bh g.qa0.length) (F:PrI g.qa4.length g.qa1.length p) (E:g.qa0.length<100):MG {g with qa0:=g.qa0++[p]}:=by
 refine ⟨h.cs,h.fam,h.qa1,h.start,h.qa2,⟨?_,λq r k B w=> ?_⟩,λq r=> ?_,⟨eK (g:=g) (g':={g with qa0:=g.qa0++[p]}) rfl (by show _<=(g.qa0++[p]).length;rw [tT];omega) _ _ h.lvs.1,h.lvs.2⟩,λx A=>⟨BB (h.fils x A).1,(h.fils x A).2⟩⟩
 ·show ((g.qa0++[p]).map Pr.name).Nodup;rw [yW,VB];refine ⟨h.names.1,by simp,λx A y D=> ?_⟩;rw [xA,List.map_nil,vu] at D;obtain ⟨q,r,rfl⟩:=xv.1 A;rw [D,C];exact h.names.2 q r _ (ru _) E
 ·replace B:(g.qa0++[p]).length<=k:=B;rw [tT,Ub] at B;rcases vj.1 r with r|r
  ·exact h.names.2 q r k (by omega) w
  ·rw [vu.1 r,C];intro e;have:=qhE E w e;omega
 ·rcases vj.1 r with r|r
  ·exact h.qa0 q r
  ·rw [vu.1 r];exact F
theorem nT (r:List Sy) (lo hi:Int):d7 r 0 0 lo hi:=.inl ⟨rfl,rfl⟩
theorem IV {g:Gr} (x:Ln) (D:g.qa4.length<=3) (r:g.qa1.length≠0):PrI g.qa4.length g.qa1.length (jc g x):=by
 have w:(aP g.qa1.length x).length<=4:=by unfold aP;rw [ub,z9];omega
 refine ⟨⟨_,mh (by omega),rfl⟩,⟨by show (0:Int)<=((x.left % g.qa1.length:Nat):Int);omega,?_⟩,by show (aP _ _).length<=5;omega,λs C=> ?_,⟨by show (-1:Int)<=0;decide,by show (0:Int)<=1;decide⟩,by show 0<=2;decide,⟨λy B=>(by cases B),nT _ _ _,nT _ _ _,λh=>(by cases h)⟩,?_,?_⟩
 ·show ((x.left % g.qa1.length:Nat):Int)<_;have:=VU x.left (Nat.pos_of_ne_zero r);omega
 ·obtain ⟨b,E,rfl⟩:=xv.1 (show s∈(x.right.take 4).map (mb g.qa1.length) from C);unfold mb;split
  ·exact ⟨by show (0:Int)<=((b % 14:Nat):Int);omega,λ_=>by show ((b % 14:Nat):Int)<9;omega,λh=>(by cases h)⟩
  ·refine ⟨by show (0:Int)<=(((b % 14 - 9) % g.qa1.length:Nat):Int);omega,λh=>(by cases h),λ_=> ?_⟩;show (((b % 14 - 9) % g.qa1.length:Nat):Int)<_;have:=VU (b % 14 - 9) (Nat.pos_of_ne_zero r);omega
 ·intro e;have A:(2:Nat)=0:=congrArg ByteArray.size (show bh g.qa0.length=emp from e);cases A
 ·show (bh g.qa0.length).size<=13;show 2<=13;decide
theorem MI {n N:Nat} {p:Pr} (h:PrI n N p) (_:p.rank=0) (_:p.lay=[]) (P:p.sco=km) (H:p.brk=mD) (m:Nat):PrI n N (cD p m):=by
 obtain ⟨C,A,w,D,F,E,g,B⟩:=h;have R:∀r,d7 r km.d km.k 1 7:=λr=>nT r _ _;have Q:∀r,d7 r km.u km.a 0 255:=λr=>nT r _ _;have hl:∀{q:Pr},q.lay=[]->∀x∈q.lay,BS q.right x:=λe x K=>by rw [e] at K;cases K
 unfold cD;split
 ·exact ⟨C,A,w,D,F,E,g,B⟩
 rename_i L;split
 ·exact ⟨C,A,w,D,⟨by show (-1:Int)<=1;decide,by show (1:Int)<=1;decide⟩,E,⟨g.1,g.2.1,g.2.2.1,λh=>by rw [show (p.brk=nk)=(mD=nk) by rw [H]] at h;cases h⟩,B⟩
 split
 ·exact ⟨C,A,w,D,⟨by show (-1:Int)<=-1;decide,by show (-1:Int)<=1;decide⟩,E,⟨g.1,g.2.1,g.2.2.1,λh=>by rw [show (p.brk=nk)=(mD=nk) by rw [H]] at h;cases h⟩,B⟩
 split
 ·refine ⟨C,A,w,D,F,E,⟨g.1,g.2.1,g.2.2.1,λh=> ?_⟩,B⟩;have:BT p:=by have:wq p=nk:=h;unfold wq at this;simpa using this
  exact this
 have O:0<p.right.length:=Nat.pos_of_ne_zero L;split
 ·have X:=VU (m / 8 / 4) O;refine ⟨C,A,w,D,F,by show 1<=2;decide,⟨λx K=> ?_,g.2.1,g.2.2.1,λh=>by rw [show (p.brk=nk)=(mD=nk) by rw [H]] at h;cases h⟩,B⟩;rw [vu.1 K];refine ⟨by show (1:Int)<=((1+m / 8 % 4:Nat):Int);omega,by show ((1+m / 8 % 4:Nat):Int)<=4;omega,by show (0:Int)<=((m / 8 / 4 % p.right.length:Nat):Int);omega,by show ((m / 8 / 4 % p.right.length:Nat):Int)<p.right.length;omega,?_,?_,λh=> ?_⟩
  ·show (0:Int)<=if m / 8 % 4=0 then 0 else ((p.right.length - 1:Nat):Int)
   split<;>omega
  ·show (if m / 8 % 4=0 then (0:Int) else ((p.right.length - 1:Nat):Int))<p.right.length;split<;>omega
  ·have h:((1+m / 8 % 4:Nat):Int)=1:=h;show (if m / 8 % 4=0 then (0:Int) else ((p.right.length - 1:Nat):Int))=0;rw [Χ (by omega)]
 split
 ·exact ⟨C,A,w,D,F,E,⟨g.1,by show d7 p.right p.sco.d p.sco.k 1 7;rw [P];exact R _,by show d7 p.right p.sco.u p.sco.a 0 255;rw [P];exact Q _,λh=>by rw [show (p.brk=nk)=(mD=nk) by rw [H]] at h;cases h⟩,B⟩
 have J:=VU (m / 8) O;have M:(p.right.getD (m / 8 % p.right.length) ⟨mD,0⟩).t=nk->∃s,p.right[(((m / 8 % p.right.length+1:Nat):Int) - 1).toNat]? =V s/\s.t=nk:=λG=>by rw [show (((m / 8 % p.right.length+1:Nat):Int) - 1).toNat=m / 8 % p.right.length by omega];refine ⟨_,N5 J,?_⟩;rw [QX,N5 J] at G;exact G
 split
 ·split
  ·rename_i G;exact ⟨C,A,w,D,F,E,⟨g.1,.inr ⟨by show (0:Int)<((m / 8 % p.right.length+1:Nat):Int);omega,by show ((m / 8 % p.right.length+1:Nat):Int)<=p.right.length;omega,M G,by show (1:Int)<=((1+m / 8 % 2:Nat):Int);omega,by show ((1+m / 8 % 2:Nat):Int)<=7;omega⟩,nT _ _ _,λh=>by rw [show (p.brk=nk)=(mD=nk) by rw [H]] at h;cases h⟩,B⟩
  ·exact ⟨C,A,w,D,F,E,g,B⟩
 split
 ·split
  ·rename_i G;exact ⟨C,A,w,D,F,E,⟨g.1,nT _ _ _,.inr ⟨by show (0:Int)<((m / 8 % p.right.length+1:Nat):Int);omega,by show ((m / 8 % p.right.length+1:Nat):Int)<=p.right.length;omega,M G,by show (0:Int)<=((1+m / 8 % 7:Nat):Int);omega,by show ((1+m / 8 % 7:Nat):Int)<=255;omega⟩,λh=>by rw [show (p.brk=nk)=(mD=nk) by rw [H]] at h;cases h⟩,B⟩
  ·exact ⟨C,A,w,D,F,E,g,B⟩
 ·exact ⟨C,A,w,D,F,E,g,B⟩
theorem rS (p:Pr) (m:Nat):(cD p m).name=p.name:=by
 unfold cD
 repeat' split
 all_goals rfl
theorem MG.lineG {g:Gr} (h:MG g) {a b:Nat} (r:Bd g a b) (A:a<100) (x:Ln) (w:Bool):MG (lineG g x w):=by
 have B:=r.p;unfold Go.Proofs.YteilolbbgieadaaGreatDoor.lineG;split
 ·exact h
 ·exact h.line (by rw [rS];rfl) (MI (IV x r.c r.n0) rfl rfl rfl rfl _) (by omega)
theorem rT {g:Gr} {y:Lv}:∀(l:List Lv) (r:Φ),eH g r l->Sk g (r++l.flatMap Lv.ps) y->eH g r (l++[y])
 |[],r,_,h=>by simp only [List.flatMap_nil,yt] at h;exact ⟨h,trivial⟩
 |x::l,r,⟨h1,h2⟩,h=>⟨h1,rT l _ h2 (by rw [xZ];exact h)⟩
theorem MG.fil {g:Gr} (h:MG g) {y:Fi} (hd:SxD g.qa4.length y.cond) (w:y.qa2.length<=2):MG (ki g y):=by
 unfold ki;split
 ·rename_i A;refine ⟨h.cs,h.fam,h.qa1,h.start,h.qa2,h.names,h.qa0,⟨eK (g:=g) (by rfl) (by exact ru _) _ _ h.lvs.1,h.lvs.2⟩,λx r=> ?_⟩;rcases vj.1 r with r|r
  ·exact h.fils x r
  ·rw [vu.1 r];exact ⟨A,hd,w⟩
 ·exact h
theorem MG.lvl {g:Gr} (h:MG g) {a b:Nat} (C:Bd g a b) (x:Ru):MG (nR g x):=by
 have A:0<g.qa0.length:=Nat.pos_of_ne_zero C.p0;have hd:SxD g.qa4.length (yO g x):=⟨_,mh (by have:=C.c;omega),rfl⟩;have F:=VU x.a A;have E:=VU x.b A;unfold nR;split
 ·exact h
 ·rename_i B;refine ⟨h.cs,h.fam,h.qa1,h.start,h.qa2,h.names,h.qa0,⟨eK (g:=g) (by rfl) (by exact ru _) _ _ (rT _ _ h.lvs.1 ?_),λy w=> ?_⟩,h.fils⟩
  ·rw [zB];refine ⟨by show (0:Int)<=((x.c % 4:Nat):Int);omega,by show ((x.c % 4:Nat):Int)<=3;omega,hd.fit (by have:=C.c;omega),λp r=> ?_,?_,λp r=> ?_⟩
   ·rcases tS.1 r with rfl|r
    ·omega
    ·split at r
     ·rw [vu.1 r];omega
     ·cases r
   ·show (_::_).Nodup;rw [WT];split
    ·rename_i D;refine ⟨?_,by simp⟩;rw [vu];omega
    ·exact ⟨by simp,.nil⟩
   ·rcases tS.1 r with rfl|r
    ·exact B
    ·split at r
     ·rename_i D;rw [vu.1 r];exact D.2
     ·cases r
  ·rcases vj.1 w with w|w
   ·exact h.lvs.2 y w
   ·rw [vu.1 w];exact hd
theorem Gh {g g':Gr} (L:g'.qa4=g.qa4) (M:g'.qa0=g.qa0) (O:g'.qa1=g.qa1) (H:∀(i:Nat) (t:Tk),g.qa2[i]? =V t->∃w:Tk,g'.qa2[i]? =V w/\w.cls=t.cls/\w.lit=t.lit) {x:Fi} (h:cq g x):cq g' x:=by
 unfold cq at h ⊢;unfold oN at h ⊢;rw [L,M,O];refine ⟨h.1,?_⟩;rcases h.2 with h|⟨k,⟨a,b,c1,J,K⟩,r⟩|⟨k,⟨⟨c1,J,K⟩,a,t,A,C,N⟩,r⟩
 ·exact .inl h
 ·refine .inr (.inl ⟨k,⟨a,b,c1,λn F=> ?_,K⟩,r⟩);obtain ⟨G,t,A,C⟩:=J n F;obtain ⟨w,B,E,D⟩:=H _ _ A;exact ⟨G,w,B,by show decide (w.cls=0)=nk;rw [E];exact C⟩
 ·obtain ⟨w,B,E,D⟩:=H _ _ A;refine .inr (.inr ⟨k,⟨⟨c1,λn F=> ?_,K⟩,a,w,B,by rw [E];exact C,by rw [D];exact N⟩,r⟩);obtain ⟨G,t,A,C⟩:=J n F;obtain ⟨w,B,E,D⟩:=H _ _ A;exact ⟨G,w,B,by show (!decide (w.lit=emp))=nk;rw [D];exact C⟩
theorem MG.tokG {g:Gr} (h:MG g) {a b:Nat} (B:Bd g a b) (x:Ru):MG (tokG g x):=by
 have hd:SxD g.qa4.length (yO g x):=⟨_,mh (by have:=B.c;omega),rfl⟩;unfold Go.Proofs.YteilolbbgieadaaGreatDoor.tokG;refine ⟨h.cs,h.fam,h.qa1,h.start,⟨?_,λt r=> ?_⟩,h.names,h.qa0,⟨eK (g:=g) (by rfl) (by exact ru _) _ _ h.lvs.1,h.lvs.2⟩,λy w=>⟨Gh (g:=g) (by rfl) (by rfl) (by rfl) (λi t r=> ?_) (h.fils y w).1,(h.fils y w).2⟩⟩
 ·rw [<- h.qa2.1];apply WH;intro i;simp only [yw,YJ];cases g.qa2[i]? with
  |none=>rfl
  |some t=>simp only [VD];split<;>rfl
 ·obtain ⟨i,hi⟩:=List.mem_iff_getElem?.1 r;rw [YJ] at hi;cases ht':g.qa2[i]? with
  |none=>rw [ht'] at hi;simp at hi
  |some u=>
   rw [ht'] at hi;simp only [Option.map_eq_map,VD,Option.some.injEq] at hi;subst hi;split
   ·exact hd
   ·exact h.qa2.2 u (vO ht')
 ·show ∃A,(g.qa2.modify (x.a % 9) _)[i]? =V A/\_;rw [YJ,r];refine ⟨_,rfl,?_⟩;simp only [];split<;>exact ⟨rfl,rfl⟩
theorem MG.ruleG {g:Gr} (h:MG g) {a b:Nat} (r:Bd g a b) (x:Ru):MG (ruleG g x):=by
 have hd:SxD g.qa4.length (yO g x):=⟨_,mh (by have:=r.c;omega),rfl⟩;unfold Go.Proofs.YteilolbbgieadaaGreatDoor.ruleG;split
 ·exact h.lvl r x
 split
 ·exact h.fil hd (by show 0<=2;decide)
 split
 ·exact h.fil hd (by show 1<=2;decide)
 split
 ·exact h.fil hd (by show 1<=2;decide)
 ·exact h.tokG r x
theorem MG.lines {x:Rw}:∀(l:List Ln) {g:Gr} {a b:Nat},MG g->Bd g a b->a+l.length<100->MG (dv x l g)
 |[],g,a,b,h,_,_=>h
 |y::l,g,a,b,h,hb,hl=>by rw [wg] at hl;exact MG.lines (x:=x) l (h.lineG hb (by omega) y (bF x)) (DJ hb y (bF x)) (by omega)
theorem MG.rules:∀(l:List Ru) {g:Gr} {a b:Nat},MG g->Bd g a b->MG (dL l g)
 |[],_,_,_,h,_=>h
 |y::l,_,_,_,h,hb=>MG.rules l (h.ruleG hb y) (DK hb y)
theorem MG.famG {g:Gr} (h:MG g) {a b:Nat} (r:Bd g a b) (x:Rw):MG (famG x g):=by
 unfold Go.Proofs.YteilolbbgieadaaGreatDoor.famG;split
 ·rename_i w;refine ⟨h.cs,⟨yV x g.qa4.length,wy (n:=g.qa4.length) _ (by have:=r.c;omega) g.qa4.length 0 0 (by omega),λe=>w.2 (by rw [e];rfl),rfl⟩,h.qa1,h.start,h.qa2,h.names,h.qa0,⟨eK (g:=g) (by rfl) (by exact ru _) _ _ h.lvs.1,h.lvs.2⟩,h.fils⟩
 ·exact h
instance decSy (q:Option Sy):Decidable (∃s,q=V s/\s.t=nk):=
 match q with
 |none=>isFalse λ⟨_,h,_⟩=>by cases h
 |some s=>if h:s.t=nk then isTrue ⟨s,rfl,h⟩ else isFalse λ⟨_,h1,h2⟩=>by cases h1;exact h h2
instance decEntry (r:List Sy) (k v lo hi:Int):Decidable (d7 r k v lo hi):=by unfold d7;infer_instance
instance decLay (r:List Sy) (x:Cn):Decidable (BS r x):=by unfold BS;infer_instance
instance decBrk (p:Pr):Decidable (BT p):=by unfold BT;infer_instance
instance decDet (p:Pr):Decidable (lu p):=by unfold lu;infer_instance
def Sd (nn:Nat) (p:Pr):Prop:=(0<=p.left/\p.left<nn)/\p.right.length<=5/\(∀s∈p.right,0<=s.i/\(s.t=nk->s.i<9)/\(s.t=mD->s.i<nn))/\(-1<=p.rank/\p.rank<=1)/\p.lay.length<=2/\lu p/\(p.name≠emp/\p.name.size<=13)
instance decPri (nn:Nat) (p:Pr):Decidable (Sd nn p):=by unfold Sd;infer_instance
theorem bk {n g:Nat} {p:Pr} (h:Sd g p) (C:SxD n p.cond):PrI n g p:=by obtain ⟨r,w,F,E,D,A,B⟩:=h;exact ⟨C,r,w,F,E,D,A,B⟩
theorem fR {n v:Nat} (h:v<n) (g:n<=6):SxD n (pj (tv v)):=⟨_,Sx.tv h g,rfl⟩
theorem pT {n v:Nat} (h:v<n) (g:n<=6):SxD n (yQ v):=⟨_,(Sx.tv h g).ap2 (Sx.qa6 n nk),rfl⟩
def MJ (s:ο):Prop:=s.size≠2\/s.data[0]?≠V 112
instance (s:ο):Decidable (MJ s):=by unfold MJ;infer_instance
theorem MK {s:ο} (h:MJ s) (k:Nat):s≠bh k:=by
 intro e;rcases h with h|h
 ·exact h (by rw [e];rfl)
 ·exact h (by rw [e];rfl)
theorem rU {g:Gr} {n:Nat} (A:n<=3) (F:g.qa4=abc.take n) (J:g.fam=dy) (r:g.qa2=fi) (H:g.start=0) (w:bG g.qa1) (D:∀s∈g.qa1,s.size<=10) (L:(g.qa0.map Pr.name).Nodup) (K:∀s∈g.qa0.map Pr.name,MJ s)
  (G:∀p∈g.qa0,PrI g.qa4.length g.qa1.length p) (C:eH g [] g.lvs/\∀l∈g.lvs,SxD g.qa4.length l.cond) (E:∀x∈g.fils,cq g x/\SxD g.qa4.length x.cond/\x.qa2.length<=2):MG g:=by
 have e:fi.map rR=fi:=rfl;refine ⟨⟨n,A,F⟩,⟨_,Sx.qa6 _ nk,by simp,J⟩,⟨w,D⟩,H,⟨by rw [r];exact e,λt h=> ?_⟩,⟨L,λp B k _ _=>MK (K _ (List.mem_map_of_mem B)) k⟩,G,C,E⟩;rw [r,<- e] at h;obtain ⟨u,_,rfl⟩:=xv.1 h;exact aY _
theorem ML {g:Gr} (r:g.qa2=fi) (i:Nat) {kd:Tk->Bool} {t:Tk} (h:fi[i]? =V t) (w:kd t=nk):0<=(i:Int)/\∃t,g.qa2[(i:Int).toNat]? =V t/\kd t=nk:=⟨by omega,t,by rw [r,N4];exact h,w⟩
theorem Vi {g:Gr} {kd:Tk->Bool} {i:Int} (h:0<=i/\∃t,g.qa2[i.toNat]? =V t/\kd t=nk):fU g kd [i]:=by refine ⟨by simp,λn r=>by rw [vu.1 r];exact h,λj x y _ w=> ?_⟩;simp at w
theorem qgk {g:Gr} {kd:Tk->Bool} {i j:Int} (h:0<=i/\∃t,g.qa2[i.toNat]? =V t/\kd t=nk) (C:0<=j/\∃t,g.qa2[j.toNat]? =V t/\kd t=nk) (w:i<j):fU g kd [i,j]:=by
 refine ⟨by simp,λn r=> ?_,λk x y B A=> ?_⟩
 ·rcases tS.1 r with rfl|r
  ·exact h
  ·rw [vu.1 r];exact C
 ·match k with
  |0=>simp at B A;subst B A;exact w
  |k+1=>simp at A
theorem qhd:MG bY:=by
 refine rU (n:=2) (by decide) rfl rfl rfl rfl (by unfold bG;decide) (by decide) (by decide) (by decide) (λp g=> ?_) ⟨?_,?_⟩ ?_
 ·rcases tS.1 g with rfl|g
  ·exact bk (by decide) (aY _)
  rcases tS.1 g with rfl|g
  ·exact bk (by decide) (aY _)
  rcases tS.1 g with rfl|g
  ·exact bk (by decide) (aY _)
  rcases tS.1 g with rfl|g
  ·exact bk (by decide) (aY _)
  rcases tS.1 g with rfl|g
  ·exact bk (by decide) (fR (by decide) (by decide))
  cases g
 ·refine ⟨⟨by decide,by decide,(aY 2).fit (by decide),by decide,by decide,by decide⟩,⟨by decide,by decide,(aY 2).fit (by decide),by decide,by decide,by decide⟩,⟨by decide,by decide,(pT (n:=2) (v:=0) (by decide) (by decide)).fit (by decide),by decide,by decide,by decide⟩,trivial⟩
 ·intro l h;rcases tS.1 h with rfl|h
  ·exact aY _
  rcases tS.1 h with rfl|h
  ·exact aY _
  rcases tS.1 h with rfl|h
  ·exact pT (by decide) (by decide)
  cases h
 ·intro x r;cases r
theorem qho:MG bP:=by
 refine rU (n:=2) (by decide) rfl rfl rfl rfl (by unfold bG;decide) (by decide) (by decide) (by decide) (λp g=> ?_) ⟨?_,?_⟩ ?_
 ·rcases tS.1 g with rfl|g
  ·exact bk (by decide) (aY _)
  rcases tS.1 g with rfl|g
  ·exact bk (by decide) (aY _)
  rcases tS.1 g with rfl|g
  ·exact bk (by decide) (aY _)
  rcases tS.1 g with rfl|g
  ·exact bk (by decide) (aY _)
  rcases tS.1 g with rfl|g
  ·exact bk (by decide) (aY _)
  cases g
 ·trivial
 ·intro l r;cases r
 ·intro x h;rcases tS.1 h with rfl|h
  ·exact ⟨⟨(fR (n:=2) (v:=0) (by decide) (by decide)).fit (by decide),.inl ⟨.inr rfl,⟨by decide,by decide,by decide,_,_,rfl,rfl,rfl⟩,rfl,rfl,rfl⟩⟩,fR (by decide) (by decide),by decide⟩
  rcases tS.1 h with rfl|h
  ·exact ⟨⟨(fR (n:=2) (v:=1) (by decide) (by decide)).fit (by decide),.inr (.inr ⟨rfl,⟨qgk (ML rfl 5 rfl (by decide)) (ML rfl 6 rfl (by decide)) (by decide),by decide,_,rfl,rfl,rfl⟩,rfl,rfl,rfl,rfl⟩)⟩,fR (by decide) (by decide),by decide⟩
  cases h
theorem qg8:MG aQ:=by
 refine rU (n:=2) (by decide) rfl rfl rfl rfl (by unfold bG;decide) (by decide) (by decide) (by decide) (λp g=> ?_) ⟨?_,?_⟩ ?_
 ·rcases tS.1 g with rfl|g
  ·exact bk (by decide) (aY _)
  rcases tS.1 g with rfl|g
  ·exact bk (by decide) (aY _)
  rcases tS.1 g with rfl|g
  ·exact bk (by decide) (aY _)
  rcases tS.1 g with rfl|g
  ·exact bk (by decide) (aY _)
  rcases tS.1 g with rfl|g
  ·exact bk (by decide) (aY _)
  rcases tS.1 g with rfl|g
  ·exact bk (by decide) (aY _)
  rcases tS.1 g with rfl|g
  ·exact bk (by decide) (fR (by decide) (by decide))
  cases g
 ·trivial
 ·intro l r;cases r
 ·intro x h;cases h
theorem Gi:MG iq:=by
 refine rU (n:=2) (by decide) rfl rfl rfl rfl (by unfold bG;decide) (by decide) (by decide) (by decide) (λp g=> ?_) ⟨?_,?_⟩ ?_
 ·rcases tS.1 g with rfl|g
  ·exact bk (by decide) (aY _)
  rcases tS.1 g with rfl|g
  ·exact bk (by decide) (aY _)
  rcases tS.1 g with rfl|g
  ·exact bk (by decide) (aY _)
  rcases tS.1 g with rfl|g
  ·exact bk (by decide) (aY _)
  rcases tS.1 g with rfl|g
  ·exact bk (by decide) (fR (by decide) (by decide))
  cases g
 ·trivial
 ·intro l r;cases r
 ·intro x h;cases h
theorem BC:MG fO:=by
 refine rU (n:=2) (by decide) rfl rfl rfl rfl (by unfold bG;decide) (by decide) (by decide) (by decide) (λp g=> ?_) ⟨?_,?_⟩ ?_
 ·rcases tS.1 g with rfl|g
  ·exact bk (by decide) (aY _)
  rcases tS.1 g with rfl|g
  ·exact bk (by decide) (aY _)
  rcases tS.1 g with rfl|g
  ·exact bk (by decide) (aY _)
  rcases tS.1 g with rfl|g
  ·exact bk (by decide) (aY _)
  rcases tS.1 g with rfl|g
  ·exact bk (by decide) (aY _)
  rcases tS.1 g with rfl|g
  ·exact bk (by decide) (fR (by decide) (by decide))
  cases g
 ·trivial
 ·intro l r;cases r
 ·intro x h;rcases tS.1 h with rfl|h
  ·exact ⟨⟨(fR (n:=2) (v:=0) (by decide) (by decide)).fit (by decide),.inr (.inl ⟨.inl rfl,⟨by decide,by decide,Vi (ML rfl 0 rfl (by decide))⟩,rfl,rfl,rfl,rfl⟩)⟩,fR (by decide) (by decide),by decide⟩
  rcases tS.1 h with rfl|h
  ·exact ⟨⟨(pT (n:=2) (v:=1) (by decide) (by decide)).fit (by decide),.inr (.inl ⟨.inr rfl,⟨by decide,by decide,Vi (ML rfl 1 rfl (by decide))⟩,rfl,rfl,rfl,rfl⟩)⟩,pT (by decide) (by decide),by decide⟩
  cases h
theorem BE:MG fQ:=by
 refine rU (n:=2) (by decide) rfl rfl rfl rfl (by unfold bG;decide) (by decide) (by decide) (by decide) (λp g=> ?_) ⟨?_,?_⟩ ?_
 ·rcases tS.1 g with rfl|g
  ·exact bk (by decide) (aY _)
  rcases tS.1 g with rfl|g
  ·exact bk (by decide) (aY _)
  rcases tS.1 g with rfl|g
  ·exact bk (by decide) (aY _)
  rcases tS.1 g with rfl|g
  ·exact bk (by decide) (aY _)
  rcases tS.1 g with rfl|g
  ·exact bk (by decide) (fR (by decide) (by decide))
  cases g
 ·trivial
 ·intro l r;cases r
 ·intro x h;cases h
theorem IW {k:Nat} (g:k<6):MG (cj k):=by
 have h:k=0\/k=1\/k=2\/k=3\/k=4\/k=5:=by omega
 rcases h with rfl|rfl|rfl|rfl|rfl|rfl
 ·exact qhd
 ·exact qho
 ·exact qg8
 ·exact Gi
 ·exact BC
 ·exact BE
theorem IX (x:Rw):MG (cU x):=by
 unfold cU;split
 ·rename_i h;exact IW (ζ h)
 ·have B:(fz x).length≠0:=by unfold fz;rw [z9];simp
  refine rU (n:=x.n % 4) (by omega) rfl rfl rfl rfl ?_ (λs g=> ?_) (by show ([⟨#[102,105,114,115,116]⟩]:List ο).Nodup;simp) (λs g=>by rw [vu.1 (show s∈([⟨#[102,105,114,115,116]⟩]:List ο) from g)];decide) (λp w=> ?_) ⟨trivial,λl A=>(by cases A)⟩ λx r=>by cases r
  ·have h:x.n / 4 % 3=0\/x.n / 4 % 3=1\/x.n / 4 % 3=2:=by omega
   show bG (fz x);unfold fz;rcases h with h|h|h<;>rw [h]<;>(unfold bG;decide)
  ·have:∀s∈([⟨#[83]⟩,⟨#[80]⟩,⟨#[81]⟩]:List ο),s.size<=10:=by decide
   exact this s (YK g)
  ·rw [vu.1 w];refine bk ⟨⟨by decide,?_⟩,by decide,?_,by decide,by decide,by decide,by decide⟩ (aY _)
   ·show (0:Int)<(fz x).length;omega
   ·intro s g;rw [vu.1 g];exact ⟨by decide,λ_=>by decide,λh=>(by cases h)⟩
theorem iv (x:Rw):MG (aS x)/\Bd (aS x) 18 10:=by
 have H:cN x<=10:=by unfold cN;split<;>decide
 have h:=IR (x:=x) (rO x);have r:=(IX x).famG (rO x) x;have g:=rP (x:=x) (x.lines.take (cN x)) h;have N:(x.lines.take (cN x)).length<=10:=by rw [z9];omega
 have M:(x.rules.take 6).length<=6:=by rw [z9];omega
 have G:=MG.lines (x:=x) (x.lines.take (cN x)) r h (by omega);have w:=rQ (x.rules.take 6) g;have B:=MG.rules (x.rules.take 6) G g;refine ⟨B,?_⟩;obtain ⟨c1,D,F,E,K,C,J,A,L⟩:=w;exact ⟨c1,D,F,E,by unfold aS;omega,C,by unfold aS;omega,A,by unfold aS;omega⟩
theorem mj (x:Rw):OkG (aS x):=(iv x).1.ok (iv x).2 (by decide) (by decide)
abbrev RT (F:PH):VR:=λr F'=>r=nW nk/\F.le F'
open Go.ChangeShapes Go.WideShapes Go.ChangeAt Go.RowKit Go.Deep
set_option maxRecDepth 100000
section
variable {H:Type} {enc:TypeId×ξ->H} {P:Program} {W:World}
theorem y7 {α:Type} {cells:α->Ξ} {k:Nat} (g:∀o,(cells o).length=k):∀{os:List α} {i j:Nat},j<k->(os.flatMap cells)[i*k+j]? =(os[i]?).bind λo=>(cells o)[j]?
 |[],i,j,_=>by simp
 |o::os,0,j,hj=>by rw [VC,Wp,x9,zM (by rw [g];exact hj)];rfl
 |o::os,i+1,j,hj=>by rw [VC,Ua (by rw [g,WJ];omega),g,show (i+1)*k+j - k=i*k+j by rw [WJ];omega,y7 g hj];rfl
theorem jg {α:Type} {cells:α->Ξ} {k:Nat} (g:∀o,(cells o).length=k):∀os:List α,(os.flatMap cells).length=os.length*k
 |[]=>by simp
 |o::os=>by rw [VC,tT,g,jg g os,wg,WJ,XM]
theorem uu {α:Type} [Inhabited α] {t e k:Nat} {cells:α->Ξ} {Q:α->Prop} (M:P.underlying t=V (.slice e)) (hk:P.cellsOf e=k) (w:0<k) (g:∀o,(cells o).length=k)
  (elem:∀{fuel:Nat} {cs:Ξ} {x:DataW H×List MemPlace},DataW.trod enc P W 0 (λ_=>nk) nk fuel e cs=V x->(x.1.weights P e).all (·<=reachBytes)=nk->∃o,cs=cells o/\Q o)
  {fuel:Nat} {c:ξ} {x:DataW H×List MemPlace} (h:DataW.trod enc P W 0 (λ_=>nk) nk fuel t [c]=V x) (C:(x.1.weights P t).all (·<=reachBytes)=nk):
  ∃(sl:Sl) (os:List α),c=nI sl/\RdS (hF W) sl k (os.flatMap cells)/\(∀o∈os,Q o)/\os.length=sl.len/\sl.len*P.bytesOf e<=reachBytes:=by
 rcases open_slice M h with ⟨r,rfl⟩|⟨a,len,cap,m,n,D,Pl,r,_,hl,hm,E,rfl,hx⟩
 ·cases r;exact ⟨pm,[],rfl,RdS.nil _ _,by simp,rfl,by simp [pm]⟩
 ·cases r;simp only [if_true] at E;subst E;rw [hk] at hx;have X:∀i,i<len->((D i).weights P e).all (·<=reachBytes)=nk:=λi hi=>by
   rw [VA] at C ⊢;intro y G;refine C y ?_;simp only [DataW.weights,M];refine Vz _ (Zg _ ?_);have R:∀(l:List (DataW H)) (d:DataW H),d∈l->∀y∈d.weights P e,y∈DataW.weightsAll P e l:=by
    intro l;induction l with
    |nil=>intro d hd;cases hd
    |cons a l ih=>
     intro d hd y G;simp only [DataW.weightsAll,vj];rcases tS.1 hd with rfl|hd
     ·exact .inl G
     ·exact .inr (ih d hd y G)
   exact R _ (D i) (xv.2 ⟨i,WU.2 hi,rfl⟩) y G
  have hb:m*P.bytesOf e<=reachBytes:=by simp only [DataW.weights,M,Xw,VT,δ,ub,WI] at C;rw [show len+(m - len)=m by omega] at C;exact C.1
  have L:∀i,i<len->∃o:α,W.cells? 0 (a.add (i*k)) k=V (cells o)/\Q o:=λi hi=>by obtain ⟨cs,J,F⟩:=hx i (by omega);obtain ⟨o,rfl,h3⟩:=elem F (X i hi);exact ⟨o,J,h3⟩
  obtain ⟨O,K⟩:=choose_lt L;refine ⟨⟨V a,len,m⟩,(List.range len).map O,rfl,⟨?_,hl,λhp=> ?_⟩,?_,by simp,WA (Xj _ hl) hb⟩
  ·rw [jg g];simp
  ·simp only at hp;have h0:=(World.cells?_some (K 0 (by omega)).1).2.2 0 w;obtain ⟨v0,N⟩:∃v,(cells (O 0))[0]? =V v:=⟨_,N5 (by rw [g];exact w)⟩;have hs:=World.cell?_spot (v:=v0) (by rw [h0];exact N);obtain ⟨b,o,a0⟩:=a;simp [nV] at hs;subst hs;refine ⟨b,o,rfl,λi hi=> ?_⟩;rw [jg g,ub,WI] at hi;have A:i / k<len:=Nat.div_lt_of_lt_mul (by rw [Nat.mul_comm];exact hi);have hr:i % k<k:=VU _ w;have J:=(World.cells?_some (K (i / k) A).1).2.2 (i % k) hr;have F:=y7 g (os:=(List.range len).map O) (i:=i / k) (j:=i % k) hr;have B:i / k*k+i % k=i:=by rw [Nat.mul_comm];exact Nat.div_add_mod i k
   rw [B] at F;rw [<- N5,F];simp only [yw,Xz A,VD,Option.bind_some];rw [<- J,aI,aI,Wo,B];rfl
  ·intro o L;obtain ⟨i,hi,rfl⟩:=xv.1 L;exact (K i (WU.1 hi)).2
end
section
variable {H:Type} {enc:TypeId×ξ->H} {W:World}
instance:Inhabited (Ln×Sl):=⟨⟨⟨0,[],0,0⟩,pm⟩⟩
instance:Inhabited Ru:=⟨⟨0,0,0,0,0⟩⟩
theorem BF:prog.cellsOf 22=1:=by kernel_rfl
theorem DO:prog.cellsOf 191=4:=by kernel_rfl
theorem DP:prog.cellsOf 194=5:=by kernel_rfl
theorem DQ:prog.cellsOf 26=5:=by kernel_rfl
theorem MM:prog.cellsOf 23=1:=by kernel_rfl
theorem MN:prog.cellsOf 24=1:=by kernel_rfl
theorem eL {z:Int} (h:(Lit.int .u8 z).wf=nk):∃n:Nat,z=n/\n<256:=by obtain ⟨g,r⟩:=SL h;exact ⟨z.toNat,by omega,by omega⟩
theorem MO {z:Int} (h:(Lit.int .u16 z).wf=nk):∃n:Nat,z=n/\n<65536:=by obtain ⟨g,r⟩:=bounds_u16 h;exact ⟨z.toNat,by omega,by omega⟩
theorem iw {fuel:Nat} {c:ξ} {x:DataW H×List MemPlace} (h:DataW.trod enc prog W 0 (λ_=>nk) nk fuel 22 [c]=V x) (D:(x.1.weights prog 22).all (·<=reachBytes)=nk):
  ∃(sl:Sl) (ns:Δ),c=nI sl/\RdS (hF W) sl 1 (ns.map vB)/\(∀n∈ns,n<256)/\ns.length<=9000000000000000:=by
 obtain ⟨sl,w,rfl,B,A,E,_⟩:=Kt underlying22 underlying5 ow h D;have e:(w.map nX).map vB=w.map (Value.int .u8):=by rw [X3];refine List.map_congr_left λz g=> ?_;obtain ⟨n,rfl,_⟩:=eL (A z g);simp only [Function.comp,N4]
 refine ⟨sl,w.map nX,rfl,by rw [e];exact B,λn C=> ?_,by rw [ub];exact Nu B E⟩;obtain ⟨z,g,rfl⟩:=xv.1 C;obtain ⟨n,rfl,r⟩:=eL (A z g);rw [N4];exact r
theorem Gj {fuel:Nat} {cs:Ξ} {x:DataW H×List MemPlace} (h:DataW.trod enc prog W 0 (λ_=>nk) nk fuel 191 cs=V x) (C:(x.1.weights prog 191).all (·<=reachBytes)=nk):
  ∃o:Ln×Sl,cs=[vB o.1.left,o.2.v,vB o.1.cond,vB o.1.mark]/\(RdS (hF W) o.2 1 (o.1.right.map vB)/\o.1.left<256/\o.1.cond<256/\o.1.mark<256/\∀y∈o.1.right,y<256):=by
 obtain ⟨G,n,_,rfl,A,w,g⟩:=DataW.trod_struct underlying191 h;rw [DO] at A
 match cs,A with
 |[c0,c1,c2,c3],_=>
 match G,w with
 |[x0,x1,x2,x3],_=>
 have f0:=g 0 _ rfl;have D:=g 1 _ rfl;have f2:=g 2 _ rfl;have B:=g 3 _ rfl;simp only [X0,Vy] at f0 D f2 B;obtain ⟨z0,e0,_,P⟩:=DataW.trod_int underlying5 f0;obtain ⟨z2,Q,_,M⟩:=DataW.trod_int underlying5 f2;obtain ⟨z3,X,_,E⟩:=DataW.trod_int underlying5 B;cases e0;cases Q;cases X;have r:(x1.1.weights prog 22).all (·<=reachBytes)=nk:=by rw [VA] at C ⊢;intro y N;refine C y ?_;simp only [DataW.weights,underlying191];exact DataW.weights_mem_each (j:=1) rfl rfl y N
 obtain ⟨J,ns,rfl,O,K,_⟩:=iw D r;obtain ⟨L,rfl,k0⟩:=eL P;obtain ⟨n2,rfl,F⟩:=eL M;obtain ⟨n3,rfl,R⟩:=eL E;exact ⟨⟨⟨L,ns,n2,n3⟩,J⟩,rfl,O,k0,F,R,K⟩
theorem Gk {fuel:Nat} {cs:Ξ} {x:DataW H×List MemPlace} (h:DataW.trod enc prog W 0 (λ_=>nk) nk fuel 194 cs=V x) (J:(x.1.weights prog 194).all (·<=reachBytes)=nk):
  ∃o:Ru,cs=[vB o.kind,vB o.a,vB o.b,vB o.c,vB o.cond]/\(o.kind<256/\o.a<256/\o.b<256/\o.c<256/\o.cond<256):=by
 obtain ⟨G,n,_,rfl,w,r,g⟩:=DataW.trod_struct underlying194 h;rw [DP] at w
 match cs,w with
 |[c0,c1,c2,c3,c4],_=>
 match G,r with
 |[x0,x1,x2,x3,x4],_=>
 have f0:=g 0 _ rfl;have C:=g 1 _ rfl;have f2:=g 2 _ rfl;have A:=g 3 _ rfl;have B:=g 4 _ rfl;simp only [X0,Vy] at f0 C f2 A B;obtain ⟨z0,e0,_,O⟩:=DataW.trod_int underlying5 f0;obtain ⟨z1,Q,_,R⟩:=DataW.trod_int underlying5 C;obtain ⟨z2,P,_,N⟩:=DataW.trod_int underlying5 f2;obtain ⟨z3,e3,_,D⟩:=DataW.trod_int underlying5 A;obtain ⟨z4,K,_,M⟩:=DataW.trod_int underlying5 B;cases e0;cases Q;cases P;cases e3;cases K;obtain ⟨L,rfl,k0⟩:=eL O;obtain ⟨n1,rfl,X⟩:=eL R;obtain ⟨n2,rfl,E⟩:=eL N;obtain ⟨n3,rfl,k3⟩:=eL D;obtain ⟨n4,rfl,F⟩:=eL M;exact ⟨⟨L,n1,n2,n3,n4⟩,rfl,k0,X,E,k3,F⟩
theorem wC {α g:Type} [Mem g] {F:PH} {cells:α->Ξ} {f:α->g}:∀{os:List α},(∀o∈os,Mem.rep F (f o) (cells o).toArray)->bS F (os.map f) (os.map λo=>(cells o).toArray)
 |[],_=> .nil
 |o::os,h=> .cons (h o (by simp)) (wC λx r=>h x (by simp [r]))
theorem IY {α:Type} (cells:α->Ξ) (os:List α):tZ (os.map λo=>(cells o).toArray)=os.flatMap cells:=by unfold tZ;rw [List.flatMap_map]
theorem IZ {fuel:Nat} {cs:Γ} {x:DataW H×List MemPlace} (h:DataW.trod enc prog W 0 (λ_=>nk) nk fuel 26 cs.toList=V x) (g:(x.1.weights prog 26).all (·<=reachBytes)=nk):
  ∃r:Rw,Gg (hF W) cs r:=by
 obtain ⟨xs,n,_,rfl,O,E,A⟩:=DataW.trod_struct underlying26 h;rw [DQ] at O;obtain ⟨cs⟩:=cs
 match cs,O with
 |[c0,c1,c2,c3,c4],_=>
 match xs,E with
 |[x0,x1,x2,x3,x4],_=>
 have f0:=A 0 _ rfl;have R:=A 1 _ rfl;have f2:=A 2 _ rfl;have P:=A 3 _ rfl;have Q:=A 4 _ rfl;simp only [X0,Vy] at f0 R f2 P Q;obtain ⟨z0,e0,_,w0⟩:=DataW.trod_int underlying5 f0;obtain ⟨z1,e1,_,w1⟩:=DataW.trod_int underlying5 R;cases e0;cases e1;have M:(x2.1.weights prog 22).all (·<=reachBytes)=nk:=by rw [VA] at g ⊢;intro y w;refine g y ?_;simp only [DataW.weights,underlying26];exact DataW.weights_mem_each (j:=2) rfl rfl y w
 have N:(x3.1.weights prog 23).all (·<=reachBytes)=nk:=by rw [VA] at g ⊢;intro y w;refine g y ?_;simp only [DataW.weights,underlying26];exact DataW.weights_mem_each (j:=3) rfl rfl y w
 have B:(x4.1.weights prog 24).all (·<=reachBytes)=nk:=by rw [VA] at g ⊢;intro y w;refine g y ?_;simp only [DataW.weights,underlying26];exact DataW.weights_mem_each (j:=4) rfl rfl y w
 obtain ⟨sf,ns,rfl,C,a0,_⟩:=iw f2 M;obtain ⟨sl,ls,rfl,L,J,_,_⟩:=uu (k:=4) (cells:=λo:Ln×Sl=>[vB o.1.left,o.2.v,vB o.1.cond,vB o.1.mark]) underlying23 DO (by decide) (λ_=>rfl) Gj P N;obtain ⟨sr,X,rfl,G,K,_,_⟩:=uu (k:=5) (cells:=λo:Ru=>[vB o.kind,vB o.a,vB o.b,vB o.c,vB o.cond]) underlying24 DP (by decide) (λ_=>rfl) Gk Q B;obtain ⟨n0,rfl,k0⟩:=eL w0;obtain ⟨n1,rfl,k1⟩:=eL w1;refine ⟨⟨n0,n1,ns,ls.map Prod.fst,X⟩,⟨sf,sl,sr,rfl,C,⟨_,wC (f:=Prod.fst) (cells:=λo:Ln×Sl=>[vB o.1.left,o.2.v,vB o.1.cond,vB o.1.mark]) λo D=> ?_,by rw [IY];exact L⟩,⟨_,?_,by rw [IY (λo:Ru=>[vB o.kind,vB o.a,vB o.b,vB o.c,vB o.cond])];exact G⟩⟩,k0,k1⟩
 ·obtain ⟨h1,h2⟩:=J o D;exact ⟨o.2,rfl,h1,h2⟩
 ·have:=wC (F:=hF W) (f:=λo:Ru=>o) (cells:=λo:Ru=>[vB o.kind,vB o.a,vB o.b,vB o.c,vB o.cond]) (os:=X) λo D=>⟨rfl,K o D⟩;rw [List.map_id'] at this;exact this
end
structure Nod where
 pr:Int
 tk:Int
 fr:Int
 to:Int
deriving DecidableEq
inductive Dtr where
 |lf (tk fr to:Int)
 |nd (pr fr to:Int) (ks:List Dtr)
def Dtr.root:Dtr->Nod
 | .lf tk fr to=>⟨-1,tk,fr,to⟩
 | .nd pr fr to _=>⟨pr,-1,fr,to⟩
def Dtr.kids:Dtr->List Dtr
 | .lf _ _ _=>[]
 | .nd _ _ _ ks=>ks
mutual
def vA:Dtr->List Nod
 | .lf tk fr to=>[⟨-1,tk,fr,to⟩]
 | .nd pr fr to ks=>⟨pr,-1,fr,to⟩::VH ks
def VH:List Dtr->List Nod
 |[]=>[]
 |n::l=>vA n++VH l
end
theorem kZ (n:Dtr):vA n=n.root::VH n.kids:=by
 cases n with
 |lf=>unfold vA;rfl
 |nd=>unfold vA;rfl
def szN (n:Dtr):Nat:=(vA n).length
def vz (l:List Dtr):Nat:=(VH l).length
theorem cn (n:Dtr):szN n=1+vz n.kids:=by unfold szN vz;rw [kZ,wg,XM]
theorem eV (n:Dtr):0<szN n:=by rw [cn];omega
theorem dh:vz []=0:=by unfold vz VH;rfl
theorem co (n:Dtr) (l:List Dtr):vz (n::l)=szN n+vz l:=by unfold vz szN;rw [VH,tT]
theorem fS:∀(l m:List Dtr),vz (l++m)=vz l+vz m
 |[],m=>by rw [zB,dh,x9]
 |n::l,m=>by rw [zK,co,co,fS l m,Wo]
theorem Dtr.ind {P:Dtr->Prop} (w:∀A fr to,P (.lf A fr to)) (g:∀pr fr to ks,(∀k∈ks,P k)->P (.nd pr fr to ks)):∀n,P n:=λn=>
 Dtr.rec (motive_1:=P) (motive_2:=λks=>∀k∈ks,P k) w (λpr fr to ks ih=>g pr fr to ks ih) (λ_ h=>(by cases h)) (λn l g w k r=>by
  rcases tS.1 r with rfl|r
  ·exact g
  ·exact w k r) n
mutual
def xx:Dtr->List Dtr
 | .lf tk fr to=>[.lf tk fr to]
 | .nd pr fr to ks=> .nd pr fr to ks::yd ks
def yd:List Dtr->List Dtr
 |[]=>[]
 |n::l=>xx n++yd l
end
theorem d5 (n:Dtr):xx n=n::yd n.kids:=by
 cases n with
 |lf=>unfold xx;rfl
 |nd=>unfold xx;rfl
theorem rW:∀(l:List Dtr),(∀k∈l,(xx k).map Dtr.root=vA k)->(yd l).map Dtr.root=VH l
 |[],_=>by unfold yd VH;rfl
 |n::l,h=>by rw [yd,VH,yW,h n (by simp),rW l λk g=>h k (by simp [g])]
theorem rX:∀n:Dtr,(xx n).map Dtr.root=vA n:=Dtr.ind (λ_ _ _=>by unfold xx vA;rfl) λh r to g ih=>by rw [xx,vA,xA,rW g ih];rfl
theorem cV (n:Dtr):(xx n).length=szN n:=by unfold szN;rw [<- rX n,ub]
theorem jF (l:List Dtr):(yd l).length=vz l:=by have:=congrArg List.length (rW l λk _=>rX k);rw [ub] at this;exact this
abbrev tQ:=ByteArray×Int
structure Spc where
 opens:Bool
 decl:Nat
 kind:Int
 uses:Nat
 allow:Nat
section
variable (sp:Int->Spc) (tx:Int->Int->ο)
def Wt (ks:List Dtr) (k:Nat):ο:=match ks[k - 1]? with
 |some n=>tx n.root.fr n.root.to
 |none=> .empty
def nU (pr:Int) (ks:List Dtr):List tQ:=if 0<(sp pr).decl then [(Wt tx ks (sp pr).decl,(sp pr).kind)] else []
mutual
def xG:Dtr->List tQ
 | .lf _ _ _=>[]
 | .nd pr _ _ ks=>(if (sp pr).opens=nk then [] else yo ks)++nU sp tx pr ks
def yo:List Dtr->List tQ
 |[]=>[]
 |n::l=>xG n++yo l
end
mutual
def xu (seen:List tQ):Dtr->List (List tQ)
 | .lf _ _ _=>[seen]
 | .nd _ _ _ ks=>seen::yX seen ks
def yX (seen:List tQ):List Dtr->List (List tQ)
 |[]=>[]
 |n::l=>xu seen n++yX (seen++xG sp tx n) l
end
theorem jh (seen:List tQ) (n:Dtr):xu sp tx seen n=seen::yX sp tx seen n.kids:=by
 cases n with
 |lf=>unfold xu;rfl
 |nd=>unfold xu;rfl
theorem lh:∀l m:List Dtr,yo sp tx (l++m)=yo sp tx l++yo sp tx m
 |[],m=>by rw [zB,yo,zB]
 |n::l,m=>by rw [zK,yo,yo,lh l m,xZ]
theorem rY:∀(l m:List Dtr) (seen:List tQ),yX sp tx seen (l++m)=yX sp tx seen l++yX sp tx (seen++yo sp tx l) m
 |[],m,seen=>by rw [zB,yX,zB,yo,yt]
 |n::l,m,seen=>by rw [zK,yX,yX,rY l m,yo,xZ,xZ]
theorem rZ:∀(l:List Dtr),(∀k∈l,∀seen,(xu sp tx seen k).length=szN k)->∀seen,(yX sp tx seen l).length=vz l
 |[],_,seen=>by unfold yX;rw [dh];rfl
 |n::l,h,seen=>by rw [yX,tT,h n (by simp),rZ l (λk g=>h k (by simp [g])),co]
theorem eW:∀(n:Dtr) (seen:List tQ),(xu sp tx seen n).length=szN n:=Dtr.ind (λ_ _ _ seen=>by unfold xu szN vA;rfl) λh r to g ih seen=>by rw [jh,wg,cn];show (yX sp tx seen g).length+1=1+vz g;rw [rZ sp tx _ ih,XM]
theorem DS (l:List Dtr) (seen:List tQ):(yX sp tx seen l).length=vz l:=rZ sp tx l (λk _=>eW sp tx k) seen
theorem MP {l m:List Dtr} {n:Dtr} {seen:List tQ} {j:Nat} (h:j<szN n):(yX sp tx seen (l++n::m))[vz l+j]? =(xu sp tx (seen++yo sp tx l) n)[j]? :=by rw [rY,Ua (by rw [DS];omega),DS,Yi,yX,zM (by rw [eW];exact h)]
end
def bC (n:Dtr) (i:Nat):Option Dtr:=(xx n)[i]?
theorem eM (n:Dtr):bC n 0=V n:=by unfold bC;rw [d5];rfl
theorem li:∀l m:List Dtr,yd (l++m)=yd l++yd m
 |[],m=>by rw [zB,yd,zB]
 |n::l,m=>by rw [zK,yd,yd,li l m,xZ]
def bQ (i:Nat) (ks:List Dtr) (k:Nat):Nat:=i+1+vz (ks.take k)
theorem gQ {i:Nat} {ks:List Dtr} {k:Nat} {n:Dtr} (h:ks[k]? =V n):bQ i ks (k+1)=bQ i ks k+szN n:=by unfold bQ;rw [Wx,h];show i+1+vz (ks.take k++[n])=_;rw [fS,co,dh];omega
theorem DT:∀(l:List Dtr),(∀k∈l,∀(i:Nat) (m:Dtr),bC k i=V m->∃a b,xx k=a++xx m++b/\a.length=i)->∀(i:Nat) (m:Dtr),(yd l)[i]? =V m->∃a b,yd l=a++xx m++b/\a.length=i
 |[],_,i,m,h=>by rw [yd] at h;simp at h
 |n::l,hk,i,m,h=>by
  rw [yd] at h ⊢;by_cases hi:i<(xx n).length
  ·rw [zM hi] at h;obtain ⟨a,b,e,g⟩:=hk n (by simp) i m h;exact ⟨a,b++yd l,by rw [e];simp only [xZ],g⟩
  ·rw [Ua (by omega)] at h;obtain ⟨a,b,e,g⟩:=DT l (λk h=>hk k (by simp [h])) _ m h;exact ⟨xx n++a,b,by rw [e];simp only [xZ],by rw [tT,g];omega⟩
theorem wD:∀(n:Dtr) (i:Nat) (m:Dtr),bC n i=V m->∃a b,xx n=a++xx m++b/\a.length=i:=Dtr.ind (λB r to i m h=>by
  unfold bC at h;rw [xx] at h;cases i with
  |zero=>cases h;exact ⟨[],[],by simp,rfl⟩
  |succ i=>simp at h) λw r to g ih i m h=>by
 cases i with
 |zero=>rw [eM] at h;cases h;exact ⟨[],[],by simp,rfl⟩
 |succ i=>unfold bC at h;rw [d5,Vy] at h;obtain ⟨a,b,e,A⟩:=DT g ih i m h;refine ⟨.nd w r to g::a,b,?_,by rw [wg,A]⟩;rw [d5];show _::yd g=_;rw [e];simp
theorem gR {n m:Dtr} {i:Nat} (h:bC n i=V m):(vA n)[i]? =V m.root:=by rw [<- rX n,yw];unfold bC at h;rw [h];rfl
theorem gi {n m:Dtr} {i k:Nat} {c:Dtr} (h:bC n i=V m) (w:m.kids[k]? =V c):bC n (bQ i m.kids k)=V c:=by
 obtain ⟨a,b,e,B⟩:=wD n i m h;have g:=(N6.1 w).1;have A:m.kids=m.kids.take k++c::m.kids.drop (k+1):=by have:=(W5 k m.kids).symm;rw [XJ g] at this;rw [(N6.1 w).2] at this;exact this
 unfold bC bQ;have r:yd m.kids=yd (m.kids.take k)++(xx c++yd (m.kids.drop (k+1))):=by have:=congrArg yd A;rw [li,yd] at this;exact this
 rw [e,d5 m,r,d5 c,xZ,Ua (by omega),B];rw [show i+1+vz (m.kids.take k) - i=vz (m.kids.take k)+1 by omega];rw [zK,Vy,xZ,Ua (by rw [jF];omega),jF,X4];rfl
theorem y8:∀(l:List Dtr) (j:Nat),j<vz l->∃(k:Nat) (c:Dtr) (m:Nat),l[k]? =V c/\m<szN c/\j=vz (l.take k)+m
 |[],j,h=>by rw [dh] at h;omega
 |n::l,j,h=>by
  rw [co] at h;by_cases r:j<szN n
  ·exact ⟨0,n,j,rfl,r,by rw [z6,dh,x9]⟩
  ·obtain ⟨k,c,m,g,w,A⟩:=y8 l (j - szN n) (by omega);exact ⟨k+1,c,m,g,w,by rw [XU,co];omega⟩
theorem jG {l:List Dtr} {k:Nat} {c:Dtr} (h:l[k]? =V c):l=l.take k++c::l.drop (k+1):=by have g:=(N6.1 h).1;have:=(W5 k l).symm;rw [XJ g,(N6.1 h).2] at this;exact this
section
variable (sp:Int->Spc) (tx:Int->Int->ο)
theorem I0 {n c:Dtr} {seen:List tQ} {k j:Nat} (h:n.kids[k]? =V c) (g:j<szN c):(xu sp tx seen n)[1+vz (n.kids.take k)+j]? =(xu sp tx (seen++yo sp tx (n.kids.take k)) c)[j]? :=by rw [jh,show 1+vz (n.kids.take k)+j=(vz (n.kids.take k)+j)+1 by omega,Vy];have:=MP sp tx (l:=n.kids.take k) (m:=n.kids.drop (k+1)) (n:=c) (seen:=seen) g;rw [<- jG h] at this;exact this
theorem wE {n:Dtr} {seen:List tQ}:(xu sp tx seen n)[0]? =V seen:=by rw [jh];rfl
theorem Se:∀(n:Dtr) (seen:List tQ) (i:Nat) (m:Dtr),bC n i=V m->∃at_,(xu sp tx seen n)[i]? =V at_/\∀j,j<szN m->(xu sp tx seen n)[i+j]? =(xu sp tx at_ m)[j]? :=by
 have key:∀(n:Dtr) (i:Nat) (m:Dtr),bC n i=V m->∀seen:List tQ,∃at_,(xu sp tx seen n)[i]? =V at_/\∀j,j<szN m->(xu sp tx seen n)[i+j]? =(xu sp tx at_ m)[j]? :=Dtr.ind (λK w to i m h seen=>by
   unfold bC at h;rw [xx] at h;cases i with
   |zero=>cases h;exact ⟨seen,wE sp tx,λj _=>by rw [x9]⟩
   |succ i=>simp at h) λA w to g ih i m h seen=>by
  cases i with
  |zero=>rw [eM] at h;cases h;exact ⟨seen,wE sp tx,λj _=>by rw [x9]⟩
  |succ i=>
   have hi:i<vz g:=by unfold bC at h;rw [d5,Vy] at h;have:=(N6.1 h).1;rwa [show (Dtr.nd A w to g).kids=g from rfl,jF] at this
   obtain ⟨k,c,j,B,D,H⟩:=y8 g i hi;have r:bC c j=V m:=by unfold bC at h ⊢;rw [d5,Vy,show (Dtr.nd A w to g).kids=g from rfl,jG B,li,yd,Ua (by rw [jF];omega),jF,H,Yi,zM (by rw [cV];exact D)] at h;exact h
   obtain ⟨at_,F,J⟩:=ih c (vO B) j m r (seen++yo sp tx (g.take k));have E:∀q,q<szN c->(xu sp tx seen (.nd A w to g))[1+vz (g.take k)+q]? =(xu sp tx (seen++yo sp tx (g.take k)) c)[q]? :=λq C=>I0 sp tx (n:=.nd A w to g) B C;have G:j+szN m<=szN c:=by obtain ⟨a,b,e,L⟩:=wD c j m r;have:=congrArg List.length e;rw [tT,tT,cV,cV] at this;omega
   refine ⟨at_,?_,λq C=> ?_⟩
   ·rw [show i+1=1+vz (g.take k)+j by omega,E j D];exact F
   ·rw [show i+1+q=1+vz (g.take k)+(j+q) by omega,E (j+q) (by omega)];exact J q C
 exact λn seen i m h=>key n i m h seen
theorem Ja {n m c:Dtr} {seen:List tQ} {i k:Nat} (h:bC n i=V m) (r:m.kids[k]? =V c):∃at_,(xu sp tx seen n)[i]? =V at_/\(xu sp tx seen n)[bQ i m.kids k]? =V (at_++yo sp tx (m.kids.take k)):=by
 obtain ⟨at_,w,B⟩:=Se sp tx n seen i m h;have A:vz (m.kids.take k)+szN c<=vz m.kids:=by have:=congrArg vz (jG r);rw [fS,co] at this;omega
 have g:=eV c;refine ⟨at_,w,?_⟩;unfold bQ;rw [show i+1+vz (m.kids.take k)=i+(1+vz (m.kids.take k)+0) by omega,B _ (by rw [cn m];omega),I0 sp tx r g,wE]
def eF (s:ο) (l:List tQ):Int:=match l.reverse.find? λx=>decide (x.1=s) with
 |some x=>x.2
 |none=>0
def Xu (allow:Nat) (kind:Int):Bool:=decide (allow / 2 ^ kind.toNat % 2=1)
def XE (seen:List tQ):Dtr->Bool
 | .lf _ _ _=>nk
 | .nd pr _ _ ks=>if (sp pr).uses=0 then nk else Xu (sp pr).allow (eF (Wt tx ks (sp pr).uses) seen)
def WC (n:Dtr):Δ:=(List.range (szN n)).filter λi=>match (xu sp tx [] n)[i]?,bC n i with
 |some s,V m=> !XE sp tx s m
 |_,_=>mD
end
def ml:Int->Bool->List Nod->Int->Prop
 |at_,ex,[],to=>if ex=nk then at_=to else at_<=to
 |at_,ex,n::l,to=>¬((ex=nk/\n.fr≠at_)\/n.fr<at_)/\ml n.to (decide (0<=n.pr)) l to
theorem BG (s:ο) (l:List tQ) (x:tQ):eF s (l++[x])=if x.1=s then x.2 else eF s l:=by
 unfold eF;rw [List.reverse_append,List.reverse_singleton,List.singleton_append,List.find?_cons];by_cases h:x.1=s
 ·rw [ε h,Χ h]
 ·rw [η h,Υ h]
def YD (s:ο) (l:List tQ):Prop:=∀x∈l,x.1≠s
theorem Jb {s:ο} {l:List tQ} (h:YD s l):eF s l=0:=by
 unfold eF;have:l.reverse.find? (λx=>decide (x.1=s))=I:=List.find?_eq_none.2 λx g=>by have:=h x (List.mem_reverse.1 g);simpa using this
 rw [this]
theorem Gl {s:ο} {l m:List tQ} (h:YD s m):eF s (l++m)=eF s l:=by
 unfold eF;have:m.reverse.find? (λx=>decide (x.1=s))=I:=List.find?_eq_none.2 λx g=>by have:=h x (List.mem_reverse.1 g);simpa using this
 rw [List.reverse_append,List.find?_append,this];rfl
theorem Gm {s:ο} {l m:List tQ} {x:tQ} (h:YD s m) (g:x.1=s):eF s (l++x::m)=x.2:=by rw [show l++x::m=(l++[x])++m by simp,Gl h,BG,Χ g]
section
variable {sp:Int->Spc} {tx:Int->Int->ο}
def Vw (K:Int->Prop) (l:List tQ):Prop:=∀x∈l,K x.2
theorem BH {K:Int->Prop}:∀(l:List Dtr),(∀k∈l,Vw K (xG sp tx k))->Vw K (yo sp tx l)
 |[],_=>by unfold yo;exact λx g=>(by cases g)
 |n::l,hk=>by
  rw [yo];intro x g;rcases vj.1 g with g|g
  ·exact hk n (by simp) x g
  ·exact BH l (λk h=>hk k (by simp [h])) x g
theorem OG {K:Int->Prop} (h:∀p,0<(sp p).decl->K (sp p).kind):∀n:Dtr,Vw K (xG sp tx n):=Dtr.ind (λ_ _ _ x g=>by unfold xG at g;cases g) λr A to w ih x g=>by
 unfold xG at g;rcases vj.1 g with g|g
 ·split at g
  ·cases g
  ·exact BH w ih x g
 ·unfold nU at g;by_cases hd:0<(sp r).decl
  ·rw [Χ hd,vu] at g;rw [g];exact h r hd
  ·rw [Υ hd] at g;cases g
theorem Jc {K:Int->Prop} (h:∀n:Dtr,Vw K (xG sp tx n)):∀(l:List Dtr),(∀k∈l,∀s,Vw K s->∀y∈xu sp tx s k,Vw K y)->∀s,Vw K s->∀y∈yX sp tx s l,Vw K y
 |[],_,s,_,y,g=>by unfold yX at g;cases g
 |n::l,hk,s,hs,y,g=>by
  rw [yX,vj] at g;rcases g with g|g
  ·exact hk n (by simp) s hs y g
  ·refine Jc h l (λk w=>hk k (by simp [w])) _ (λx r=> ?_) y g;rcases vj.1 r with r|r
   ·exact hs x r
   ·exact h n x r
theorem qdm {K:Int->Prop} (h:∀n:Dtr,Vw K (xG sp tx n)):∀(n:Dtr) (s:List tQ),Vw K s->∀y∈xu sp tx s n,Vw K y:=Dtr.ind (λ_ _ _ s r y g=>by
  unfold xu at g;rw [vu] at g;rw [g]
  exact r) λA B to w ih s r y g=>by
 rw [jh] at g;rcases tS.1 g with g|g
 ·rw [g];exact r
 ·exact Jc h w ih s r y g
end
def VM (i:Nat) (n:Dtr):Δ:=(xx n).mapIdx λj m=>i+j+szN m
def Xe (i:Nat) (l:List Dtr):Δ:=(yd l).mapIdx λj m=>i+j+szN m
theorem wF (i:Nat) (n:Dtr):VM i n=(i+szN n)::Xe (i+1) n.kids:=by unfold VM Xe;rw [d5,List.mapIdx_cons];congr 1;congr 1;funext j m;omega
theorem Jd (i:Nat) (n:Dtr) (l:List Dtr):Xe i (n::l)=VM i n++Xe (i+szN n) l:=by unfold VM Xe;rw [yd,List.mapIdx_append,cV];congr 1;congr 1;funext j m;omega
theorem jH (i:Nat) (n:Dtr):(VM i n).length=szN n:=by unfold VM;rw [List.length_mapIdx,cV]
theorem MQ (i:Nat) (l:List Dtr):(Xe i l).length=vz l:=by unfold Xe;rw [List.length_mapIdx,jF]
theorem Je {n m:Dtr} {i j:Nat} (h:bC n j=V m):(VM i n)[j]? =V (i+j+szN m):=by unfold VM;unfold bC at h;rw [List.getElem?_mapIdx,h];rfl
theorem gS {n:Dtr} {j:Nat} (h:j<szN n):∃m,bC n j=V m:=by unfold bC;exact ⟨_,N5 (by rw [cV];exact h)⟩
theorem d6 {n m:Dtr} {j:Nat} (h:bC n j=V m):j<szN n:=by unfold bC at h;have:=(N6.1 h).1;rwa [cV] at this
theorem sub_le {n m:Dtr} {j:Nat} (h:bC n j=V m):j+szN m<=szN n:=by obtain ⟨a,b,e,g⟩:=wD n j m h;have:=congrArg List.length e;rw [tT,tT,cV,cV] at this;omega
theorem dn {n m:Dtr} {j:Nat} (h:bC n j=V m):m∈xx n:=vO h
def VI (g:Gr) (p:Int):Option Pr:=if 0<=p then g.qa0[p.toNat]? else I
theorem bB {g:Gr} {p:Int} {x:Pr} (h:VI g p=V x):0<=p/\p.toNat<g.qa0.length/\g.qa0[p.toNat]? =V x:=by
 unfold VI at h;split at h
 ·exact ⟨by assumption,(N6.1 h).1,h⟩
 ·cases h
def XD (g:Gr):Dtr->Sy
 | .lf tk _ _=>⟨nk,tk⟩
 | .nd pr _ _ _=>⟨mD,((VI g pr).map Pr.left).getD 0⟩
def Gp (g:Gr):Dtr->Prop
 | .lf tk fr to=>0<=tk/\tk<g.qa2.length/\0<=fr/\fr<to
 | .nd pr fr to ks=>0<=fr/\fr<=to/\∃p,VI g pr=V p/\p.right=ks.map (XD g)
def dT (g:Gr) (n:Dtr):Prop:=∀m∈xx n,Gp g m
theorem dT.here {g:Gr} {n:Dtr} (h:dT g n):Gp g n:=h n (by rw [d5];exact XA)
theorem DU {n m:Dtr}:∀{ks:List Dtr},n∈ks->m∈xx n->m∈yd ks
 |k::l,h,hm=>by
  rw [yd,vj];rcases tS.1 h with rfl|h
  ·exact .inl hm
  ·exact .inr (DU h hm)
theorem dT.kid {g:Gr} {n k:Dtr} (h:dT g n) (w:k∈n.kids):dT g k:=λm r=>h m (by rw [d5];exact Vz _ (DU w r))
theorem dT.sub {g:Gr} {n m:Dtr} {i:Nat} (h:dT g n) (r:bC n i=V m):dT g m:=λk w=>by obtain ⟨a,b,e,_⟩:=wD n i m r;exact h k (by rw [e];simp [w])
def WX (g:Gr) (L:List Nod) (T:Δ) (N:Nat):Nat->List (Nat×List Dtr)->Prop
 |j,[]=>j=N
 |j,(x,ks)::fs=>T[x]? =V (j+vz ks)/\T.drop j=Xe j ks++T.drop (j+vz ks)/\L.drop j=VH ks++L.drop (j+vz ks)/\(∀k∈ks,dT g k)/\WX g L T N (j+vz ks) fs
section
variable {g:Gr} {L:List Nod} {T:Δ} {N:Nat}
theorem uv {α:Type} {l a:List α} {j n:Nat} {b:List α} (h:l.drop j=a++b) (r:a.length=n):l.drop (j+n)=b:=by rw [<- XL,h,<- r,List.drop_left]
theorem Jf {j x:Nat} {c:Dtr} {ks:List Dtr} {fs:List (Nat×List Dtr)} (h:WX g L T N j ((x,c::ks)::fs)):L[j]? =V c.root/\dT g c/\WX g L T N (j+1) ((j,c.kids)::(x,ks)::fs):=by
 obtain ⟨C,w,A,G,F⟩:=h;rw [co] at C w A F;rw [Jd,xZ] at w;rw [VH,xZ] at A;have e:=cn c;have H:=uv w (jH j c);have D:=uv (n:=szN c) A rfl;have E:=G c (by simp);have K:T[j]? =V (j+szN c):=by have:=congrArg (λl=>l[0]?) w;rw [wF] at this;simpa using this
 have J:L[j]? =V c.root:=by have:=congrArg (λl=>l[0]?) A;rw [kZ] at this;simpa using this
 rw [wF,zK] at w;rw [kZ,zK] at A;have f2:T.drop (j+1)=Xe (j+1) c.kids++(Xe (j+szN c) ks++T.drop (j+(szN c+vz ks))):=by rw [<- XL,w];rfl
 have M:L.drop (j+1)=VH c.kids++(VH ks++L.drop (j+(szN c+vz ks))):=by rw [<- XL,A];rfl
 have r:j+1+vz c.kids=j+szN c:=by omega
 refine ⟨J,E,?_,?_,?_,λk B=>E.kid B,?_,?_,?_,λk B=>G k (by simp [B]),?_⟩
 ·rw [K,r]
 ·rw [r,f2,H]
 ·rw [r,M,D]
 ·rw [C,r,Wo]
 ·rw [r,H,Wo]
 ·rw [r,D,Wo]
 ·rw [r,Wo];exact F
theorem MR {j x:Nat} {fs:List (Nat×List Dtr)} (h:WX g L T N j ((x,[])::fs)):T[x]? =V j/\WX g L T N j fs:=by obtain ⟨r,_,_,_,w⟩:=h;rw [dh] at r w;exact ⟨r,w⟩
theorem BI {j:Nat}:∀{fs:List (Nat×List Dtr)},WX g L T N j fs->j<=N
 |[],h=>Nat.le_of_eq h
 | (x,ks)::fs,h=>by have:=BI h.2.2.2.2;omega
theorem Jg {n:Dtr} (h:dT g n):WX g (vA n) (VM 0 n) (szN n) 1 [(0,n.kids)]:=by
 have e:=cn n;refine ⟨?_,?_,?_,λk r=>h.kid r,?_⟩
 ·rw [wF,X0];congr 1;omega
 ·rw [wF,<- e,Xy,Vu];rw [show ((0+szN n)::Xe (0+1) n.kids:Δ).drop (szN n)=[] from Ye (by rw [wg,MQ];omega),yt]
 ·rw [kZ,<- e,Xy,Vu];rw [show (n.root::VH n.kids:List Nod).drop (szN n)=[] from Ye (by rw [wg];show vz n.kids+1<=_;omega),yt]
 ·show 1+vz n.kids=szN n;omega
end
section
variable (sp:Int->Spc) (tx:Int->Int->ο) {β:Type} (E:Nat->List tQ->List β) (L:Nat->Nat->List tQ->List β)
mutual
def UX (i:Nat) (seen:List tQ):Dtr->List β
 | .lf _ _ _=>E i seen++L i seen.length seen
 | .nd pr fr to ks=>E i seen++UW (i+1) seen ks++L i seen.length (seen++xG sp tx (.nd pr fr to ks))
def UW (i:Nat) (seen:List tQ):List Dtr->List β
 |[]=>[]
 |n::l=>UX i seen n++UW (i+szN n) (seen++xG sp tx n) l
end
end
section
variable {sp:Int->Spc} {tx:Int->Int->ο} {β:Type} {E:Nat->List tQ->List β}
theorem uw:∀(l:List Dtr),(∀k∈l,∀i seen,UX sp tx E (λ_ _ _=>[]) i seen k=((xu sp tx seen k).mapIdx λj s=>E (i+j) s).flatten)->∀i seen,UW sp tx E (λ_ _ _=>[]) i seen l=((yX sp tx seen l).mapIdx λj s=>E (i+j) s).flatten
 |[],_,i,seen=>by unfold UW yX;rfl
 |n::l,h,i,seen=>by rw [UW,yX,h n (by simp),uw l λk g=>h k (by simp [g]),List.mapIdx_append,List.flatten_append,eW];congr 2;congr 1;funext j s;rw [show i+szN n+j=i+(j+szN n) by omega]
theorem y9:∀(n:Dtr) (i:Nat) (seen:List tQ),UX sp tx E (λ_ _ _=>[]) i seen n=((xu sp tx seen n).mapIdx λj s=>E (i+j) s).flatten:=Dtr.ind (λ_ _ _ i seen=>by
  unfold UX xu
  simp) λh r to g ih i seen=>by
 rw [UX,jh,List.mapIdx_cons,List.flatten_cons,yt];show E i seen++UW sp tx E (λ_ _ _=>[]) (i+1) seen g=E (i+0) seen++((yX sp tx seen g).mapIdx _).flatten;rw [uw g ih];congr 2;congr 1;funext j s;rw [show i+1+j=i+(j+1) by omega]
theorem Sf:∀(l:List (List tQ)) (i:Nat) {x:List tQ},l[i]? =V x->(l.mapIdx λj s=>if 0+j=i then s else []).flatten=x:=by
 have key:∀(l:List (List tQ)) (a i:Nat),i<a->(l.mapIdx λj s=>if a+j=i then s else []).flatten=[]:=λl a i h=>by rw [List.flatten_eq_nil_iff];intro y g;obtain ⟨j,r,rfl⟩:=List.mem_mapIdx.1 g;rw [Υ (by omega)]
 have go:∀(l:List (List tQ)) (a i:Nat) (x:List tQ),l[i]? =V x->(l.mapIdx λj s=>if a+j=a+i then s else []).flatten=x:=by
  intro l;induction l with
  |nil=>intro a i x h;simp at h
  |cons y l ih=>
   intro a i x h;rw [List.mapIdx_cons,List.flatten_cons];cases i with
   |zero=>rw [X0] at h;cases h;rw [Χ rfl];have:=key l (a+1) a (by omega);rw [show (λ(j:Nat) (s:List tQ)=>if a+(j+1)=a+0 then s else [])=λj s=>if a+1+j=a then s else [] from by funext j s;rw [show a+(j+1)=a+1+j by omega];rfl,this,yt]
   |succ i=>rw [Vy] at h;rw [Υ (by omega),zB];have:=ih (a+1) i x h;rw [<- this];congr 2;funext j s;rw [show a+(j+1)=a+1+j by omega,show a+(i+1)=a+1+i by omega]
 intro l i x h;have:=go l 0 i x h;simp only [x9] at this ⊢;exact this
def WG (i:Nat):Nat->Nat->List tQ->List tQ:=λk b s=>if k=i then s.drop b else []
theorem mq:∀(l:List Dtr),(∀k∈l,∀i a seen,i<a\/a+szN k<=i->UX sp tx (λ_ _=>[]) (WG i) a seen k=[])->∀i a seen,i<a\/a+vz l<=i->UW sp tx (λ_ _=>[]) (WG i) a seen l=[]
 |[],_,i,a,seen,_=>by unfold UW;rfl
 |n::l,h,i,a,seen,hi=>by rw [co] at hi;rw [UW,h n (by simp) i a seen (by omega),mq l (λk g=>h k (by simp [g])) i _ _ (by omega)];rfl
theorem wG:∀(n:Dtr) (i a:Nat) (seen:List tQ),i<a\/a+szN n<=i->UX sp tx (λ_ _=>[]) (WG i) a seen n=[]:=Dtr.ind (λw r to i a seen h=>by
  rw [cn] at h;have:(Dtr.lf w r to).kids=[]:=rfl;unfold UX WG;rw [Υ (by omega)]
  rfl) λA r to g ih i a seen h=>by
 rw [cn] at h;have h:i<a\/a+(1+vz g)<=i:=h;rw [UX,mq g ih i _ _ (by omega)];unfold WG;rw [Υ (by omega)];rfl
theorem ux:∀(l:List Dtr),(∀k∈l,∀(j a:Nat) (m:Dtr) seen,bC k j=V m->UX sp tx (λ_ _=>[]) (WG (a+j)) a seen k=xG sp tx m)->∀(j a:Nat) (m:Dtr) seen,(yd l)[j]? =V m->UW sp tx (λ_ _=>[]) (WG (a+j)) a seen l=xG sp tx m
 |[],_,j,a,m,seen,h=>by rw [yd] at h;simp at h
 |n::l,hk,j,a,m,seen,h=>by
  rw [yd] at h;rw [UW];by_cases g:j<(xx n).length
  ·rw [zM g] at h;have:=d6 h;rw [hk n (by simp) j a m seen h,mq l (λk _=>wG k) _ _ _ (by omega),yt]
  ·rw [Ua (by omega)] at h;rw [cV] at h g;have:=ux l (λk h=>hk k (by simp [h])) (j - szN n) (a+szN n) m (seen++xG sp tx n) h;rw [show a+szN n+(j - szN n)=a+j by omega] at this;rw [this,wG n _ _ _ (by omega),zB]
theorem Jh:∀(n:Dtr) (j a:Nat) (m:Dtr) (seen:List tQ),bC n j=V m->UX sp tx (λ_ _=>[]) (WG (a+j)) a seen n=xG sp tx m:=Dtr.ind (λw r to j a m seen h=>by
  unfold bC at h;rw [xx] at h;cases j with
  |zero=>cases h;unfold UX WG xG;rw [Χ (show a=a+0 from rfl),XX];rfl
  |succ j=>simp at h) λA r to g ih j a m seen h=>by
 cases j with
 |zero=>rw [eM] at h;cases h;rw [UX,mq g (λk _=>wG k) _ _ _ (by omega)];unfold WG;rw [Χ (show a=a+0 from rfl),List.drop_left];rfl
 |succ j=>unfold bC at h;rw [d5,Vy] at h;have:=ux g ih j (a+1) m seen h;rw [show a+1+j=a+(j+1) by omega] at this;rw [UX,this];unfold WG;rw [Υ (by omega),yt];rfl
def Yy (sp:Int->Spc) (tx:Int->Int->ο) (n:Dtr):Nat->List tQ->Δ:=λi s=>match bC n i with
 |some m=>if XE sp tx s m then [] else [i]
 |none=>[]
theorem oJ {p:Nat->Bool}:∀l:Δ,(l.map λi=>if p i=nk then [i] else []).flatten=l.filter p
 |[]=>rfl
 |x::l=>by
  rw [xA,List.flatten_cons,oJ l];by_cases h:p x=nk
  ·rw [Χ h,List.filter_cons_of_pos h];rfl
  ·rw [Υ h,List.filter_cons_of_neg h];rfl
theorem qdn (n:Dtr):UX sp tx (Yy sp tx n) (λ_ _ _=>[]) 0 [] n=WC sp tx n:=by
 rw [y9];unfold WC;rw [<- oJ];congr 1;refine WH λi=> ?_;rw [List.getElem?_mapIdx,yw];by_cases hi:i<szN n
 ·obtain ⟨m,h⟩:=gS hi;rw [Xz hi];have g:i<(xu sp tx [] n).length:=by rw [eW];exact hi
  rw [N5 g,VD,VD];congr 1;unfold Yy;rw [x9,h];dsimp only;rw [N5 g];dsimp only;by_cases e:XE sp tx (xu sp tx [] n)[i] m=nk
  ·simp [e]
  ·simp [e]
 ·rw [VP (by rw [eW];omega),VP (by rw [WI];omega)];rfl
end
abbrev Nod.arr (x:Nod):Γ:= #[U x.pr,U x.tk,U x.fr,U x.to]
instance:Mem Nod where
 n:=4
 rep _ x c:=c=x.arr
 len h:=by rw [h];rfl
 le _ h:=h
 st h:=by rw [h];simp [ak]
abbrev lj (x:tQ):Γ:= #[ph x.1,U x.2]
instance:Mem tQ where
 n:=2
 rep _ x c:=c=lj x
 len h:=by rw [h];rfl
 le _ h:=h
 st h:=by rw [h];simp [ak]
abbrev bi (l:List tQ):Ξ:=l.flatMap λx=>(lj x).toList
theorem RL.nams {F:PH} {s:Sl} {l:List tQ}:RL F s l↔RdS F s 2 (bi l):=RL.flat (f:=lj) (λ_ _ _=>Iff.rfl)
theorem dx (l m:List tQ):bi (l++m)=bi l++bi m:=by simp [bi]
theorem eO:∀l:List tQ,(bi l).length=l.length*2
 |[]=>rfl
 |x::l=>by have:=eO l;simp only [bi,VC,tT,wg] at this ⊢;rw [this];show 2+_=_;omega
theorem qik (l:List tQ) (k:Nat):(bi l).take (k*2)=bi (l.take k):=by
 induction l generalizing k with
 |nil=>simp [bi]
 |cons x l ih=>
  cases k with
  |zero=>simp [bi]
  |succ k=>have:=ih k;simp only [bi,VC,XU] at this ⊢;rw [WJ,<- this];rfl
theorem qil (l:List tQ) (k:Nat):(bi l).drop (k*2)=bi (l.drop k):=by
 induction l generalizing k with
 |nil=>simp [bi]
 |cons x l ih=>
  cases k with
  |zero=>simp [bi]
  |succ k=>have:=ih k;simp only [bi,VC,Xy] at this ⊢;rw [WJ,<- this];rfl
theorem jI (l:List tQ):∀v∈bi l,ak v:=by intro v h;obtain ⟨x,_,g⟩:=XW.1 h;simp at g;rcases g with rfl|rfl<;>simp [ak]
structure Vio where
 i:Nat
abbrev Vio.arr (x:Vio):Γ:= #[U 6,U (x.i:Int),U 0]
instance:Mem Vio where
 n:=3
 rep _ x c:=c=x.arr
 len h:=by rw [h];rfl
 le _ h:=h
 st h:=by rw [h];simp [ak]
def gT (s:Sl) (e n:Nat) (vs:Ξ):Ψ:=λH=>bO H e n s vs\/(RdS H s n vs/\s.len=s.cap)
theorem gT.rd {s:Sl} {e n:Nat} {vs:Ξ} {H:PH} (h:gT s e n vs H):RdS H s n vs:=h.elim bO.rd λh=>h.1
theorem gT.nil {e n:Nat} {H:PH}:gT pm e n [] H:=.inl (.inl ⟨rfl,rfl⟩)
theorem gT.cut {s:Sl} {e n k:Nat} {vs:Ξ} {H:PH} (h:gT s e n vs H) (g:k<=s.len):gT (s.cut n 0 k k) e n (vs.take (k*n)) H:=by refine .inr ⟨?_,rfl⟩;have:=h.rd.cut (l:=0) (r:=k) (m:=k) (yA _) g (ru _);rw [Wp,Vu,VV] at this;exact this
namespace St
section
variable {G F:PH} {As:List (Ψ)} {t e n bytes:Nat} {z:ξ}
theorem sownRd (h:St G F As) {i:Nat} {s:Sl} {vs:Ξ} (hi:As[i]? =V (gT s e n vs)):RdS F s n vs:=by obtain ⟨H,r,_,g⟩:=h.get hi;exact r.rd.le g
theorem spushAt (T:SlT t e n bytes z) {s:Sl} {g:Ξ} {c:Γ} {ty:TypeId} (h:St G F As) (i:Nat) (hi:As[i]? =V (gT s e n g)) (L:c.size=n) (J:∀v∈c.toList,ak v) (a0:s.len<=400000000000) {K:Sl->Ψ}
  (k:∀A G' P,G.le G'->St G' P (As.set i (gT A e n (g++c.toList)))->A.len=s.len+1->K A P):
  ∀b,F b=I->xJ (F.set b (Y c e)) λF=>aG prog (Builtin.append_ #[t,t] ty #[s.v,nI (t7 (V (oB b 0 I)) 1 1)]) F λv F=>∃A:Sl,v=nI A/\K A F:=by
 refine h.newG λW G1 Q l1 q1 _ h=> ?_;have r:RdS Q (t7 (V (oB W 0 I)) 1 1) n c.toList:=RdS.new (h.le _ _ q1) (zh (by rw [zQ,L,Wy];exact ru _)) (by rw [zQ,L,Wy]) (ru _);have N:i<As.length:=(N6.1 hi).1;obtain ⟨H,D,a2,a3,a4⟩:=h.set (A':=own s e n g) hi;rcases D with D|⟨D,a5⟩
 ·have ho:=a4 H Q D (λb E=> .inl E) a3 λb o E _=>E;refine ho.appAt T i (X1 N) r J (by show s.len+1<=_;omega) λA P h' hl=> ?_;rw [List.set_set] at h';have h2:=h'.imp (A':=gT A e n (g++c.toList)) i (X1 N) λ_ _ hH=> .inl hH;rw [List.set_set] at h2;exact k A G1 P l1 h2 hl
 ·have C:=D.len;have B:=r.len;refine gu T.ht T.hsz T.hz T.hzs (D.le a3) r J (D8 T.hb (by show s.len+1<=_;omega)) (by show s.len+1<=_;omega) (λh0=> ?_) (λ_ h1=> ?_) λ_ cap b w E=> ?_
  ·have:=Nat.mul_pos (show 0<(t7 (V (oB W 0 I)) 1 1).len from Nat.one_pos) T.hn;omega
  ·have:s.len+1<=s.cap:=h1;omega
  ·have w:s.len+1<=cap:=w;have B:c.toList.length=1*n:=B;refine ⟨_,rfl,?_⟩;generalize O:g.toArray++c.toList.toArray++Builtin.zeroCells z.cells (cap - (s.len+(t7 (V (oB W 0 I)) 1 1).len))=M;have R:M.size=cap*n:=by rw [<- O];simp [Builtin.zeroCells,T.hzs,C];rw [L,<- Wo,show s.len*n+n=(s.len+1)*n by rw [WJ],<- Wn];congr 1;omega
   have X:M.toList.take ((s.len+1)*n)=g++c.toList:=by rw [<- O];simp only [Yf,Zj];rw [Xi (by simp [C,L,Wn]),zh (by simp [C,L,Wn])]
   obtain ⟨H,c1,c2,c3,c4⟩:=h.set (A':=gT (t7 (V (oB b 0 I)) (s.len+1) cap) e n (g++c.toList)) hi;refine k _ G1 _ l1 (c4 (PH.set (λ_=>I) b (Y M e)) (Q.set b (Y M e)) (.inl (.inr ⟨b,M,rfl,aq _ _ _,R,w,?_,X⟩)) (λx r=> ?_) (λx p r=> ?_) λx p r hn=> ?_) rfl
   ·rw [tT,C,B,Wn]
   ·by_cases e:x=b
    ·rw [e];exact .inr E
    ·rw [aw _ _ e] at r;exact absurd rfl r
   ·by_cases e:x=b
    ·rw [e,aq] at r ⊢;exact r
    ·rw [aw _ _ e] at r;cases r
   ·have e:x≠b:=λe=>by subst e;rw [E] at r;cases r
    rw [aw _ _ e];exact r
end
end St
variable {R:VR} {F:PH}
set_option maxHeartbeats 4000000
def Vl (e:Γ) (b:Int) (f:Sl) (R:VR) (F:PH):Prop:=Nb F (Y e 39) λh F=>Lr F 9 (Z h 0) λg=>Ci 45 #[nQ g,rV .u64 b] F λa F=>Bc (a≠0) (R (U a) F) (Lr F 9 (Z h 0) λc=>Cs 46 #[nQ c,rV .u64 b,nI f] F λd F=>Bb ((d.qa5.isNone)) (R (U 90) F) (R (U 0) F))
theorem qgl {a:Γ} {b:Int} {c:Sl} (h:Vl a b c R F):ν 22 #[nQ a,rV .u64 b,nI c] F R:=Rx.Λ .N h
def Vm (g:Γ) (h:Sl) (c:Int) (R:VR) (F:PH):Prop:=Nb F (Y g 39) λj F=>Lr F 9 (Z j 0) λi=>Ci 47 #[nQ i] F λd F=>Bc (d≠0) (R (po #[nI pm,nW mD]) F) (Lr F 9 (Z j 0) λe=>Cs 48 #[nQ e,nI h] F λa F=>Bc (c<0) (R (po #[nI pm,nW mD]) F) (Bc ((a.len:Int)<=c) (R (po #[nI pm,nW mD]) F) (ν 50 #[nI a,(U c)] F λv F=>∃b:ξ,v=b/\Cs 49 #[b] F λf F=>R (po #[nI f,nW nk]) F)))
theorem qgm {a:Γ} {b:Sl} {c:Int} (h:Vm a b c R F):ν 25 #[nQ a,nI b,(U c)] F R:=Rx.Λ .N h
def Vn (d:Γ) (e:Int) (R:VR) (F:PH):Prop:=Nb F (Y d 39) λg F=>Lr F 9 (Z g 0) λf=>Ci 47 #[nQ f] F λa F=>Bc (a≠0) (R (U a) F) (Lr F 9 (Z g 0) λb=>vf 75 #[nQ b,rV .u64 e] F λc F=>Bb ((!c)) (R (U 1) F) (R (U 0) F))
theorem qgn {a:Γ} {b:Int} (h:Vn a b R F):ν 45 #[nQ a,rV .u64 b] F R:=Rx.Λ .N h
def Ji (a:Sl) (R:VR) (F:PH):Prop:=R (nI a) F
def wH (c:Ω) (_:Int) (_:Sl) (_:Nat) (_:Sl) (a:Int) (_:VR) (F:PH):Prop:=c (i64.wrap (a+1)) F
def BJ (u:Ω) (d:Int) (c:Sl) (s:Nat) (b:Sl) (R:VR) (a:Int) (F:PH):Prop:=Bc (a<(c.len:Int)) (Ix c a λg=>Lr F 4 (nV g (nX a*4)) λh=>Nb F (Y (#[U 0,U 0,U 0,U 0]) 47) λt F=>aA F (Z t 0) 4 h λF=>Li F (Z t 0) λi=>Bc (i<0) (Ls F (Z s 3) λj=>Li F (Z t 1) λe=>Ix j e λk=>Lr F 2 (nV (nV k (nX e*7)) 5) λl=>vf 76 #[nQ l,rV .u64 d] F λm F=>Bb ((!m)) (R (nI pm) F) (wH u d c s b a R F)) (Ls F (Z s 5) λn=>Li F (Z t 0) λf=>Ix n f λo=>Lr F 2 (nV (nV o (nX f*13)) 3) λp=>vf 76 #[nQ p,rV .u64 d] F λq F=>Bb ((!q)) (R (nI pm) F) (vf 77 #[nI c,nI b,(U a)] F λr F=>Bb ((!r)) (R (nI pm) F) (wH u d c s b a R F)))) (Ji b R F)
def Vo (n:Γ) (o:Int) (a:Sl) (R:VR) (F:PH):Prop:=Nb F (Y n 39) λm F=>Lr F 9 (Z m 0) λd=>Cs 48 #[nQ d,nI a] F λb F=>Bb ((b.qa5.isNone)) (R (nI pm) F) (Ix a 0 λe=>Li F (nV e (nX 0*4)) λf=>Bc (f<0) (R (nI pm) F) (Ls F (Z m 5) λg=>Ix a 0 λh=>Li F (nV h (nX 0*4)) λc=>Ix g c λi=>Li F (nV (nV i (nX c*13)) 1) λj=>Li F (Z m 6) λk=>Bc (j≠k) (R (nI pm) F) (Lp 0 F λN l F=>BJ N o a m b R l F)))
theorem qgo {a:Γ} {b:Int} {c:Sl} (h:Vo a b c R F):ν 46 #[nQ a,rV .u64 b,nI c] F R:=Rx.Λ (.qa8 (.qa8 (.qa8 (.J mD [] (.qa8 (.L [(38,.int .i64)] (.qa8 (.qa8 (.J mD [] .N .N))))) .N)))) h
def Vp (c:Γ) (d:Sl) (R:VR) (F:PH):Prop:=Nb F (Y c 39) λf F=>Nb F (Y #[nI d] 43) λg F=>Lr F 9 (Z f 0) λa=>Ls F (Z g 0) λe=>a.size=9/\Cs 82 #[nQ (tC (tC (wr (#[.slice I 0 0,.slice I 0 0,U 0,.slice I 0 0,.slice I 0 0,.slice I 0 0,U 0,.slice I 0 0,.slice I 0 0,U 0,.nilFunc]:Γ) 0 a.toList) 9 (U (e.len:Int))) 10 (.func (.func 81) #[] #[(Pp g),(Pp f)]))] F λb F=>R (nI b) F
theorem qgp {a:Γ} {b:Sl} (h:Vp a b R F):ν 48 #[nQ a,nI b] F R:=Rx.Λ .N h
def Vq (a:Sl) (b:Int) (R:VR) (F:PH):Prop:=Nb F (Y #[nI a] 76) λc F=>Nb F (Y #[(U b)] 3) λd F=>R (.func (.func 84) #[] #[(Pp d),(Pp c)]) F
theorem qgq {a:Sl} {b:Int} (h:Vq a b R F):ν 50 #[nI a,(U b)] F R:=Rx.Λ .N h
def Vr (h:Int) (z i:Θ) (R:VR) (F:PH):Prop:=∃f,z=V f/\Ls F f λA=>Ix A h λj=>Lr F 4 (nV j (nX h*4)) λk=>Nb F (Y (#[U 0,U 0,U 0,U 0]) 47) λc F=>aA F (Z c 0) 4 k λF=>Li F (Z c 0) λl=>Bc (l=(-1:Int)) (Li F (Z c 1) λd=>Li F (Z c 1) λm=>Bc (0<=m) (Li F (Z c 1) λn=>∃g,i=V g/\Ls F (nV g 3) λo=>Bc (n<(o.len:Int)) (Li F (Z c 2) λp=>Bc (0<=p) (Li F (Z c 2) λq=>Li F (Z c 3) λr=>R (po #[(U (-1:Int)),(U d),nW (decide (q<r))]) F) (R (po #[(U (-1:Int)),(U d),nW mD]) F)) (R (po #[(U (-1:Int)),(U d),nW mD]) F)) (R (po #[(U (-1:Int)),(U d),nW mD]) F)) (Li F (Z c 0) λa=>Li F (Z c 1) λb=>Li F (Z c 0) λs=>Bc (0<=s) (Li F (Z c 0) λt=>∃e,i=V e/\Ls F (nV e 5) λu=>Bc (t<(u.len:Int)) (Li F (Z c 1) λv=>Bc (v=(-1:Int)) (Li F (Z c 2) λw=>Bc (0<=w) (Li F (Z c 2) λx=>Li F (Z c 3) λy=>R (po #[(U a),(U b),nW (decide (x<=y))]) F) (R (po #[(U a),(U b),nW mD]) F)) (R (po #[(U a),(U b),nW mD]) F)) (R (po #[(U a),(U b),nW mD]) F)) (R (po #[(U a),(U b),nW mD]) F))
theorem qgr {a:Int} {b:Θ} {c:Θ} (h:Vr a b c R F):ν 81 #[(U a),.pointer b,.pointer c] F R:=Rx.Λ .N h
def Jj (b a:Sl) (R:VR) (F:PH):Prop:=Bc ((0:Int)<(a.len:Int)) (R (nI pm) F) (R (nI b) F)
def wI (e:Sl->Ω) (_:Nat) (_:Sl) (_ b:Int) (a:Sl) (_:VR) (F:PH):Prop:=e a (i64.wrap (b+1)) F
def BK (j:Sl->Ω) (l:Sl->Ψ) (k:Nat) (c:Sl) (d f:Int) (R:VR) (a:Sl) (F:PH):Prop:=Bc ((0:Int)<(a.len:Int)) (Ix a (i64.wrap ((a.len:Int) - 1)) λi=>∃e,F.cell (nV (nV i (nX (i64.wrap ((a.len:Int) - 1))*2)) 1)=V (nI e)/\Bc ((e.len:Int)=0) (Ix a (i64.wrap ((a.len:Int) - 1)) λg=>∃b,F.cell (nV g (nX (i64.wrap ((a.len:Int) - 1))*2))=V (U b)/\Ix c b λh=>pv F (nV h (nX b*1)) (U (i64.wrap (d+1))) λF=>0<=(i64.wrap ((a.len:Int) - 1))/\0<=(nX (i64.wrap ((a.len:Int) - 1)))/\(nX (i64.wrap ((a.len:Int) - 1)))<=a.cap/\l (Sl.cut a 2 0 (nX (i64.wrap ((a.len:Int) - 1))) a.cap) F) (wI j k c f d a R F)) (wI j k c f d a R F)
def wJ (k:Sl->Ω) (l:Nat) (e c:Sl) (d f:Int) (b:Sl) (R:VR) (F:PH):Prop:=(#[(U d),nI b]:Γ).size=2/\Nb F (Y (#[(U d),nI b]:Γ) 223) λi F=>Ap 219 #[nI c,nI (Sb i 1)] F λg F=>(∃(j:Nat->Sl->Ψ) (h:Nat),j h g F/\∀h a F,j h a F-> BK k (Xh j h) l e d f R a F)
def wK (j:Sl->Ω) (i:Nat) (c a:Sl) (d b e:Int) (R:VR) (F:PH):Prop:=Bc (0<=b) (Ls F (Z i 5) λf=>Ix f b λg=>Ls F (nV (nV g (nX b*13)) 2) λh=>wJ j i c a d e h R F) (wJ j i c a d e pm R F)
def r6 (s:Sl->Ω) (r:Nat) (e a:Sl) (f c d g:Int) (R:VR) (F:PH):Prop:=Lr F 9 (Z r 0) λj=>Ca 118 #[nQ j,(U c),(U d)] F λk F=>Nb F (Y (#[nW mD,U 0]) 130) λt F=>aA F (Z t 0) 2 k λF=>Bc ((0:Int)<=(i64.wrap ((a.len:Int) - 1))) (Lr F 2 (Z t 0) λl=>Ix a (i64.wrap ((a.len:Int) - 1)) λm=>∃h,F.cell (nV (nV m (nX (i64.wrap ((a.len:Int) - 1))*2)) 1)=V (nI h)/\Ix h 0 λn=>Lr F 2 (nV n (nX 0*2)) λo=>∃i,(∀F,qX prog (Op.equal 130 (nQ l) (nQ o)) F i)/\Bb ((!i)) (R (nI pm) F) (Ix a (i64.wrap ((a.len:Int) - 1)) λp=>∃b,F.cell (nV (nV p (nX (i64.wrap ((a.len:Int) - 1))*2)) 1)=V (nI b)/\1<=b.len/\b.len<=b.cap/\Ix a (i64.wrap ((a.len:Int) - 1)) λq=>pv F (nV (nV q (nX (i64.wrap ((a.len:Int) - 1))*2)) 1) (nI (Sl.cut b 2 1 b.len b.cap)) λF=>wK s r e a f c g R F)) (wK s r e a f c g R F)
def BL (m:Sl->Ω) (k:Nat) (e:Sl) (f:Int) (R:VR) (a:Sl) (c:Int) (F:PH):Prop:=Bc (c<f) (∃h:ξ,F.cell (Z k 10)=V h/\Fn h λl i j=>aj prog l (i++([(U c)]).toArray++j) F λv F=>∃g,∃b,∃d,v=(po #[(U g),(U b),(nW d)])/\Bb ((!d)) (R (nI pm) F) (Bc (0<c) (Bc ((a.len:Int)=0) (R (nI pm) F) (r6 m k e a c g b f R F)) (r6 m k e a c g b f R F))) (Jj e a R F)
def Vs (j:Γ) (R:VR) (F:PH):Prop:=Nb F (Y j 175) λe F=>Li F (Z e 9) λf=>Bc (f=0) (R (nI pm) F) (Li F (Z e 9) λg=>Bc (2000000<g) (R (nI pm) F) (Li F (Z e 9) λb=>aG prog (Instr.makeSlice 76 (U b) (U b)) F λv F=>∃c,v=(nI c)/\Li F (Z e 9) λh=>(∃(k:Nat->Sl->Ω) (i:Nat),k i pm 0 F/\∀i a d F,k i a d F-> BL (V6 k i) e c h R a d F)))
theorem qgs {a:Γ} (h:Vs a R F):ν 82 #[nQ a] F R:=Rx.Λ (.qa8 (.qa8 (.qa8 (.qa8 (.J mD [(4,.sl)] (.qa8 (.L [(4,.sl),(25,.int .i64)] (.qa8 (.qa8 (.J mD [(4,.sl)] (.qa8 (.qa8 (.J mD [] .N (.qa8 (.J mD [] .N (.qa8 (.J mD [(11,.sl)] .N (.qa8 (.L [(4,.sl)] .N))))))))) .N))))) .N))))) h
def OH (g:Γ) (a b:Int) (R:VR) (F:PH):Prop:=Nb F (Y g 39) λh F=>Nb F (Y (#[nW mD,U 0]) 130) λf F=>Bc (a<0) (aA F (Z f 0) 2 (#[nW nk,(U b)]:Γ) λF=>Rr 2 (Z f 0) R F) (Ls F (Z h 5) λc=>Ix c a λd=>Li F (nV (nV d (nX a*13)) 1) λe=>aA F (Z f 0) 2 (#[nW mD,(U e)]:Γ) λF=>Rr 2 (Z f 0) R F)
theorem qdo {c:Γ} {a:Int} {b:Int} (h:OH c a b R F):ν 118 #[nQ c,(U a),(U b)] F R:=Rx.Λ .N h
end Go.Proofs.YteilolbbgieadaaGreatDoor
namespace Go.Proofs.YteilolbbgieadaaGreatDoor
open Go.IntKind (i64 u8 u64)
open Sl renaming v->nI,nil->pm,mk->t7
open Go Go.Proofs.Tryz Tr
theorem mv {k:Nat}:∀{t:Tr},dS k t->∀{c d:Cf},(∀i,i<k->c i=d i)->t.ev c=t.ev d
 |qa6 _,_,_,_,_=>rfl
 |qa7 v l h,⟨h1,h2,h3⟩,c,d,hc=>by simp only [Tr.ev];rw [hc v h1,mv h2 hc,mv h3 hc]
def BM (c:Cf):Nat->Nat
 |0=>0
 |k+1=>BM c k+if c k=nk then 2 ^ k else 0
theorem wL (c:Cf):∀k,BM c k<2 ^ k
 |0=>Nat.one_pos
 |k+1=>by have:=wL c k;rw [Nat.pow_succ,BM];split<;>omega
theorem r7 (c:Cf):∀{k i:Nat},i<k->(BM c k).testBit i=c i
 |0,_,h=>by omega
 |k+1,i,h=>by
  have r:=wL c k;rw [BM];by_cases e:i=k
  ·subst e;by_cases g:c i=nk
   ·rw [Χ g,XM,Nat.testBit_two_pow_add_eq,Nat.testBit_lt_two_pow r,g];rfl
   ·rw [Υ g,Nat.add_zero,Nat.testBit_lt_two_pow r];simpa using (Yl.2 g).symm
  ·have hi:i<k:=by omega
   by_cases g:c k=nk
   ·rw [Χ g,XM,Nat.testBit_two_pow_add_gt hi];exact r7 c hi
   ·rw [Υ g,Nat.add_zero];exact r7 c hi
theorem uy {α:Type} {p q:α->Bool}:∀{l:List α},(∀x∈l,p x=nk->q x=nk)->(l.filter p).length<=(l.filter q).length/\∀x∈l,q x=nk->p x=mD->(l.filter p).length<(l.filter q).length
 |[],_=>⟨ru _,λ_ h=>by cases h⟩
 |y::l,h=>by
  obtain ⟨G,D⟩:=uy (l:=l) λx r=>h x (Vz _ r);have B:=h y (by simp);have C:((y::l).filter p).length=(l.filter p).length+if p y=nk then 1 else 0:=by rw [List.filter_cons];split<;>simp
  have E:((y::l).filter q).length=(l.filter q).length+if q y=nk then 1 else 0:=by rw [List.filter_cons];split<;>simp
  rw [C,E];refine ⟨?_,λx r A w=> ?_⟩
  ·by_cases g:p y=nk
   ·rw [Χ g,Χ (B g)];omega
   ·rw [Υ g];omega
  ·rcases tS.1 r with rfl|r
   ·rw [Χ A,Υ (by rw [w];exact YM)];omega
   ·have:=D x r A w;by_cases g:p y=nk
    ·rw [Χ g,Χ (B g)];omega
    ·rw [Υ g];omega
def wt (k:Nat) (t:Tr):Nat:=((List.range (2 ^ k)).filter λm=>t.ev λi=>m.testBit i).length
theorem OI (k:Nat) (t:Tr):wt k t<=2 ^ k:=by unfold wt;exact WA (List.length_filter_le _ _) (by rw [WI];exact ru _)
theorem qdp {k:Nat} {a b:Tr} (B:Sx k a) (C:Sx k b) (g:∀c,a.ev c=nk->b.ev c=nk):wt k a<=wt k b/\(a≠b->wt k a<wt k b):=by
 obtain ⟨D,E⟩:=uy (p:=λm:Nat=>a.ev λi=>m.testBit i) (q:=λm=>b.ev λi=>m.testBit i) (l:=List.range (2 ^ k)) λx _=>g _;refine ⟨D,λA=> ?_⟩;have w:¬∀c,a.ev c=b.ev c:=λh=>A (eq_of_ev B.1 C.1 h);have ⟨c,hc⟩:∃c,a.ev c≠b.ev c:=Classical.not_forall.1 w;have e:∀{t:Tr},Sx k t->t.ev (λi=>(BM c k).testBit i)=t.ev c:=λG=>mv G.2 λi hi=>r7 c hi;have r:a.ev c=mD:=by
  cases h:a.ev c with
  |false=>rfl
  |true=>exact absurd (h.trans (g c h).symm) hc
 refine E (BM c k) (WU.2 (wL c k)) ?_ ?_
 ·show b.ev _=nk;rw [e C];cases h:b.ev c with
  |true=>rfl
  |false=>exact absurd (r.trans h.symm) hc
 ·show a.ev _=mD;rw [e B,r]
section
variable {κ:Type} {k:Nat}
def Sxs (k:Nat) (S:κ->Tr):Prop:=∀n,Sx k (S n)
def Lt' (S S':κ->Tr):Prop:=∀n c,(S n).ev c=nk->(S' n).ev c=nk
theorem Lt'.refl (S:κ->Tr):Lt' S S:=λ_ _ h=>h
theorem Lt'.trans {S T g:κ->Tr} (h:Lt' S T) (w:Lt' T g):Lt' S g:=λn c r=>w n c (h n c r)
theorem Lt'.antisymm {S T:κ->Tr} (g:Sxs k S) (r:Sxs k T) (h:Lt' S T) (w:Lt' T S):S=T:=by
 funext n;refine eq_of_ev (g n).1 (r n).1 λc=> ?_;cases e:(S n).ev c with
 |true=>exact (h n c e).symm
 |false=>
  cases e':(T n).ev c with
  |false=>rfl
  |true=>rw [w n c e'] at e;cases e
def mu (k:Nat) (keys:List κ) (S:κ->Tr):Nat:=(keys.map λn=>2 ^ k - wt k (S n)).sum
theorem Jk {S T:κ->Tr} (A:Sxs k S) (w:Sxs k T) (h:Lt' S T):∀keys:List κ,mu k keys T<=mu k keys S/\∀n∈keys,S n≠T n->mu k keys T<mu k keys S
 |[]=>⟨ru _,λ_ h=>by cases h⟩
 |x::l=>by
  obtain ⟨D,B⟩:=Jk A w h l;obtain ⟨E,C⟩:=qdp (A x) (w x) (h x);have G:=OI k (S x);have H:=OI k (T x);have e:∀S:κ->Tr,mu k (x::l) S=(2 ^ k - wt k (S x))+mu k l S:=λS=>by unfold mu;rw [xA,List.sum_cons]
  rw [e,e];refine ⟨by omega,λn r g=> ?_⟩;rcases tS.1 r with rfl|r
  ·have:=C g;omega
  ·have:=B n r g;omega
variable [DecidableEq κ]
def kj (S:κ->Tr) (n:κ) (t:Tr):κ->Tr:=λi=>if i=n then t else S i
theorem uz (S:κ->Tr) (n:κ):kj S n (S n)=S:=by
 funext i;unfold kj;split
 ·rename_i e;rw [e]
 ·rfl
theorem Sxs.upd {S:κ->Tr} (h:Sxs k S) {n:κ} {t:Tr} (g:Sx k t):Sxs k (kj S n t):=λi=>by
 unfold kj;split
 ·exact g
 ·exact h i
def dU (S:κ->Tr) (n:κ) (d:Tr):κ->Tr:=kj S n (ap2 z8 (S n) d)
theorem mw {S:κ->Tr} (h:Sxs k S) {n:κ} {d:Tr} (hd:Sx k d) (i:κ) (c:Cf):(dU S n d i).ev c=((S i).ev c || (decide (i=n) && d.ev c)):=by
 unfold dU kj;by_cases e:i=n
 ·rw [Χ e,ε e,e,(cE (h n).1 hd.1).2];rfl
 ·rw [Υ e,η e];simp
theorem pU {S:κ->Tr} (h:Sxs k S) {n:κ} {d:Tr} (hd:Sx k d):Sxs k (dU S n d):=h.upd ((h n).ap2 hd)
theorem wM {S:κ->Tr} (h:Sxs k S) {n:κ} {d:Tr} (hd:Sx k d):Lt' S (dU S n d):=λi c g=>by rw [mw h hd,g];rfl
end
inductive Der (l:List Pr) (P:Nat->Tr) (st:Bool) (c:Cf):Int->Prop
 |mk (i:Nat) (x:Pr):l[i]? =V x->(P i).ev c=nk->(∀s∈x.right,s.t=nk->st=mD)->(∀s∈x.right,s.t=mD->Der l P st c s.i)->Der l P st c x.left
section
variable {k:Nat} {l:List Pr} {P:Nat->Tr} {st:Bool}
def ft (S:Int->Tr):Tr->List Sy->Tr
 |d,[]=>d
 |d,s::r=>ft S (if s.t=nk then d else ap2 bV d (S s.i)) r
theorem cL {S:Int->Tr} (g:Sxs k S):∀(r:List Sy) {d:Tr},Sx k d->Sx k (ft S d r)/\∀c,(ft S d r).ev c=(d.ev c && r.all λs=>s.t || (S s.i).ev c)
 |[],d,hd=>⟨hd,λc=>by simp [ft]⟩
 |s::r,d,hd=>by
  unfold ft;by_cases h:s.t=nk
  ·rw [Χ h];obtain ⟨w,A⟩:=cL g r hd;exact ⟨w,λc=>by rw [A,Xw,h];simp⟩
  ·rw [Υ h];obtain ⟨w,A⟩:=cL g r (hd.ap2 (o:=bV) (g s.i));refine ⟨w,λc=> ?_⟩;rw [A,Xw,(cE hd.1 (g s.i).1).2,Yl.2 h,Bool.false_or,Bool.and_assoc]
def gj (st:Bool) (x:Pr):Bool:=st && x.right.any (·.t)
def iX (st:Bool) (P:Nat->Tr):Nat->List Pr->(Int->Tr)->Int->Tr
 |_,[],S=>S
 |i,x::l,S=>iX st P (i+1) l (if gj st x=nk then S else dU S x.left (ft S (P i) x.right))
theorem gl {S:Int->Tr} (g:Sxs k S) {i:Nat} (r:Sx k (P i)) (x:Pr):
  Sxs k (if gj st x=nk then S else dU S x.left (ft S (P i) x.right))/\Lt' S (if gj st x=nk then S else dU S x.left (ft S (P i) x.right)):=by
 obtain ⟨h,_⟩:=cL g x.right r;split
 ·exact ⟨g,Lt'.refl S⟩
 ·exact ⟨pU g h,wM g h⟩
theorem lq (g:∀i,Sx k (P i)):∀(l:List Pr) (i:Nat) {S:Int->Tr},Sxs k S->Sxs k (iX st P i l S)/\Lt' S (iX st P i l S)/\∀n,iX st P i l S n≠S n->∃x∈l,x.left=n
 |[],i,S,hS=>⟨hS,Lt'.refl S,λn h=>absurd rfl h⟩
 |x::l,i,S,hS=>by
  obtain ⟨C,G⟩:=gl (st:=st) hS (g i) x;unfold iX;obtain ⟨D,A,w⟩:=lq g l (i+1) C;refine ⟨D,G.trans A,λn r=> ?_⟩;by_cases e:x.left=n
  ·exact ⟨x,by simp,e⟩
  ·have:(if gj st x=nk then S else dU S x.left (ft S (P i) x.right)) n=S n:=by
    split
    ·rfl
    ·unfold dU kj;rw [Υ (Ne.symm e)]
   obtain ⟨y,B,E⟩:=w n (by rw [this];exact r);exact ⟨y,Vz _ B,E⟩
theorem oK (r:∀i,Sx k (P i)):∀(l:List Pr) (i:Nat) {S:Int->Tr},Sxs k S->iX st P i l S=S->
  ∀(j:Nat) (x:Pr),l[j]? =V x->gj st x=mD->∀c,(ft S (P (i+j)) x.right).ev c=nk->(S x.left).ev c=nk
 |[],_,_,_,_,j,_,h,_=>by simp at h
 |y::l,i,S,hS,he,j,x,hj,hs=>by
  obtain ⟨B,C⟩:=gl (st:=st) hS (r i) y;unfold iX at he;obtain ⟨D,A,_⟩:=lq (st:=st) r l (i+1) B;have w:(if gj st y=nk then S else dU S y.left (ft S (P i) y.right))=S:=by refine Lt'.antisymm B hS ?_ C;rw [he] at A;exact A
  rw [w] at he;cases j with
  |zero=>simp at hj;subst hj;rw [hs,Υ YM] at w;intro c g;have:=mw hS (n:=y.left) (cL hS y.right (r i)).1 y.left c;rw [w,ε rfl,Wz] at this;rw [this];rw [Nat.add_zero] at g;rw [g,Bool.or_true]
  |succ j=>intro c g;refine oK r l (i+1) hS he j x (by simpa using hj) hs c ?_;rw [show i+1+j=i+(j+1) by omega];exact g
def Zr (l:List Pr) (P:Nat->Tr) (st:Bool) (S:Int->Tr):Prop:=∀n c,(S n).ev c=nk->Der l P st c n
theorem zd (A:∀i,Sx k (P i)):∀(m:List Pr) (i:Nat) {S:Int->Tr},(∀j x,m[j]? =V x->l[i+j]? =V x)->Sxs k S->Zr l P st S->Zr l P st (iX st P i m S)
 |[],_,_,_,_,h=>h
 |x::m,i,S,hl,hS,h=>by
  obtain ⟨E,J⟩:=gl (st:=st) hS (A i) x;unfold iX;refine zd A m (i+1) (λj y H=>by rw [show i+1+j=i+(j+1) by omega];exact hl (j+1) y (by simpa using H)) E ?_;by_cases r:gj st x=nk
  ·rw [Χ r];exact h
  ·rw [Υ r];intro n c g;obtain ⟨G,f2⟩:=cL hS x.right (A i);rw [mw hS G] at g;rcases Bool.or_eq_true_iff.1 g with g|g
   ·exact h n c g
   ·obtain ⟨e,g⟩:=Xk.1 g;have e:=ζ e;rw [f2] at g;obtain ⟨D,C⟩:=Xk.1 g;rw [VA] at C;rw [e];refine .mk i x (by have:=hl 0 x rfl;rwa [Nat.add_zero] at this) D (λs B w=> ?_) λs B w=> ?_
    ·cases hst:st with
     |false=>rfl
     |true=>refine absurd ?_ r;unfold gj;rw [hst,Wz,XK];exact ⟨s,B,w⟩
    ·have:=C s B;rw [w,Bool.false_or] at this;exact h _ _ this
theorem BN {S:Int->Tr} (w:Sxs k S) (C:∀i,Sx k (P i)) (A:∀(j:Nat) (x:Pr),l[j]? =V x->gj st x=mD->∀c,(ft S (P j) x.right).ev c=nk->(S x.left).ev c=nk) {c:Cf} {n:Int} (h:Der l P st c n):(S n).ev c=nk:=by
 induction h with
 |mk i x hi r B _ ih=>
  refine A i x hi ?_ c ?_
  ·unfold gj;cases hst:st with
   |false=>rfl
   |true=>rw [Wz,<- Ym,XK];rintro ⟨s,g,h⟩;have:=B s g h;rw [hst] at this;cases this
  ·rw [(cL w x.right (C i)).2,r,Wz,VA];intro s g;cases h:s.t with
   |true=>rfl
   |false=>rw [Bool.false_or];exact ih s g h
structure Jl (k:Nat) (l:List Pr) (P:Nat->Tr) (st:Bool) (S:Int->Tr):Prop where
 sx:Sxs k S
 iff:∀n c,(S n).ev c=nk↔Der l P st c n
theorem Jm {S:Int->Tr} (r:∀i,Sx k (P i)) (g:Sxs k S) (h:Zr l P st S) (C:iX st P 0 l S=S):Jl k l P st S:=
 ⟨g,λn c=>⟨h n c,BN g r λj x B A c w=>oK r l 0 g C j x B A c (by rw [x9];exact w)⟩⟩
end
