/-
  The six known grammars. Printed by a program (mkIe.py).
-/
import Derived.Test.YtenpmjhnhepfdaaGreatDoorId
namespace Go.Proofs.YtenpmjhnhepfdaaGreatDoor
open Go Go.Proofs.Tryz Tr
set_option maxRecDepth 10000
abbrev eE (nons:List ByteArray):Gr:=⟨[⟨#[65]⟩,⟨#[66]⟩],aJ,eF,nons,[],0,[],[]⟩
theorem sR {F:PH} {s:Sl} {nons:List ByteArray} (hs:RL F s nons):ae prog 38 #[s.v] F fun r F'=>(∃c n t,r=.agg ((eE nons).arr c n t s Sl.nil Sl.nil Sl.nil)/\RL F' c (eE nons).conds/\RL F' n aJ.1/\RL F' t eF/\RL F' s nons)/\F.le F':=by
 refine UR ?_
 unfold Sa
 refine (St.start F).new fun b2 F1 h=> ?_
 refine h.run (gu _) fun _ G1 F1 hr l1 h=> ?_
 obtain ⟨w,rfl,hw⟩:=hr
 obtain ⟨n,rfl,hn⟩:=hw.out
 refine ⟨_,rfl,?_⟩
 refine h.new fun b3 F2 h=> ?_
 refine h.put0 (w':= #[n.v,vi aJ.2]) rfl rfl (by simp [ai,Sl.v]) fun F3 h=> ?_
 refine ⟨_,rfl,h.whole0,?_,?_⟩
 ·refine h.newG fun b5 G2 F4 l2 q _ h=> ?_
  refine h.run (mM _) fun _ G3 F5 hr l3 h=> ?_
  obtain ⟨t,rfl,ht⟩:=hr
  refine ⟨_,rfl,h.whole0,rfl,?_⟩
  refine h.put1 (w':=(eE nons).arr (Sl.mk (some (Addr.mk b5 0 none)) 2 2) n t s Sl.nil Sl.nil Sl.nil) rfl rfl (by simp [ai,Sl.v]) fun F3 h=> ?_
  have l23:=aa l2 l3
  exact ⟨_,rfl,h.whole1,⟨_,n,t,rfl,RL.strs.2 (RdS.new (h.le _ _ (l3 _ _ q)) rfl rfl (Nat.le_refl _)),hn.le (aa l23 h.le),ht.le h.le,hs.le (aa l1 (aa l23 h.le))⟩,aa l1 (aa l23 h.le)⟩
 ·refine h.run (mM _) fun _ G3 F5 hr l3 h=> ?_
  obtain ⟨t,rfl,ht⟩:=hr
  refine ⟨_,rfl,h.whole0,?_⟩
  refine h.newG fun b5 G2 F4 l2 q _ h=> ?_
  refine ⟨rfl,?_⟩
  refine h.put1 (w':=(eE nons).arr (Sl.mk (some (Addr.mk b5 0 none)) 2 2) n t s Sl.nil Sl.nil Sl.nil) rfl rfl (by simp [ai,Sl.v]) fun F3 h=> ?_
  have l23:=aa l3 l2
  exact ⟨_,rfl,h.whole1,⟨_,n,t,rfl,RL.strs.2 (RdS.new (h.le _ _ q) rfl rfl (Nat.le_refl _)),hn.le (aa l23 h.le),ht.le (aa l2 h.le),hs.le (aa l1 (aa l23 h.le))⟩,aa l1 (aa l23 h.le)⟩
theorem gr (F:PH) {arr:Array Value} {k:Nat} (nons:List ByteArray) (ha:arr.toList=nons.map Value.string) (hk:nons.length=k) {C:Nat->Nat->PH->Prop} (kk:∀b0 b1 F',KS F F' b0 b1 (eE nons)->C b0 b1 F'):
  ∀b0,F b0=none->atF (F.set b0 (.cells zG 39)) fun F=>∀b3,F b3=none->atF (F.set b3 (.cells arr 9)) fun F=>ae prog 38 #[Sl.v (Sl.mk (some (Addr.mk b3 0 none)) k k)] F fun v F=>∃w:Array Value,v=.agg w/\
   ∀b1,F b1=none->atF (F.set b1 (.cells zG 39)) fun F=>au F (Addr.mk b1 0 none) 9 w (C b0 b1):=by
 refine (St.start F).new fun b0 F1 h=> ?_
 refine h.newG fun b3 G1 F2 l1 q _ h=> ?_
 have hs:RL G1 (Sl.mk (some (Addr.mk b3 0 none)) k k) nons:=RL.strs.2 (RdS.new q (by rw [Nat.mul_one,<- hk,<- List.length_map (f:=Value.string),<- ha];exact List.take_length) (by rw [List.length_map];omega) (Nat.le_refl _))
 refine h.run (sR hs) fun _ G2 F3 hr l2 h=> ?_
 obtain ⟨c,n,t,rfl,h1,h2,h3,h4⟩:=hr
 refine ⟨_,rfl,?_⟩
 refine h.new fun b1 F4 h=> ?_
 refine h.put0 (w':=(eE nons).arr c n t (Sl.mk (some (Addr.mk b3 0 none)) k k) Sl.nil Sl.nil Sl.nil) rfl rfl (by simp [ai,Sl.v]) fun F5 h=> ?_
 have h:=(h.nilOwn 67 13).swap
 exact kk _ _ _ ⟨G2,c,n,t,_,Sl.nil,Sl.nil,Sl.nil,[],aa l1 l2,h,.nil,h1,h2,h3,h4,.nil _,.nil _⟩
theorem KS.allv {K F:PH} {b0 b1:Nat} {g:Gr} (h:KS K F b0 b1 g) {C:Nat->PH->Prop} (k:∀b K' F' n,K.le K'->K' b=some (.cells #[Sl.v n,vi aJ.2] 33)->RL K' n aJ.1->KS K' F' b0 b1 g->C b F'):
  ae prog 89 #[.bool true] F fun v F=>∃w:Array Value,v=.agg w/\∀b,F b=none->atF (F.set b (.cells #[.slice none 0 0,.int .i64 0] 33)) fun F=>au F (Addr.mk b 0 none) 2 w (C b):=by
 refine h.run (fun G _=>gu G) fun _ K1 F1 hr l1 h=> ?_
 obtain ⟨w,rfl,hw⟩:=hr
 obtain ⟨n,rfl,hn⟩:=hw.out
 refine ⟨_,rfl,?_⟩
 obtain ⟨G,c,n',t,s,sp,l,f,vs,h⟩:=h
 refine h.st.new fun b F2 st=> ?_
 refine st.put0 (w':= #[n.v,vi aJ.2]) rfl rfl (by simp [ai,Sl.v]) fun F3 st=> ?_
 refine st.pinb fun G' l2 q st=> ?_
 have l3:=aa h.k l2
 exact k b G' F3 n (aa l1 l3) q (hn.le l3) ⟨G',c,n',t,s,sp,l,f,vs,le_refl' _,st,h.r.le l2,h.c.le l2,h.n.le l2,h.t.le l2,h.s.le l2,h.l.le l2,h.f.le l2⟩
noncomputable abbrev de (v:Nat):Dia:=dia (ap2 i9 (tv v) (leaf true))
theorem be {F:PH} {v:Array Value} {x:Nat} (hx:x<6) (h:DV F v (dia (tv x))):ae prog 97 #[.agg v] F fun r F'=>ur (de x) r F'/\F.le F':=
 (qy h ((Sx.tv (n:=6) hx (by decide)).f2 (Sx.leaf 6 true) (by decide))).mono fun _ _ ⟨w,h1,h2,h3⟩=>⟨⟨w,h1,h2⟩,h3⟩
noncomputable def dq:Gr:={(eE [⟨#[69]⟩]) with prods:=[ba ⟨#[97,100,100]⟩ 0 [⟨false,0⟩,⟨true,1⟩,⟨false,0⟩],ba ⟨#[109,117,108]⟩ 0 [⟨false,0⟩,⟨true,2⟩,⟨false,0⟩],{(ba ⟨#[98,114,97,99,107,101,116]⟩ 0 [⟨true,3⟩,⟨false,0⟩,⟨true,4⟩]) with brk:=true},ba ⟨#[110,97,109,101]⟩ 0 [⟨true,0⟩],{(ba ⟨#[112,111,119]⟩ 0 [⟨false,0⟩,⟨true,8⟩,⟨false,0⟩]) with cond:=dia (tv 1)}],lvs:=[⟨[4],2,aJ⟩,⟨[1],1,aJ⟩,⟨[0],1,de 0⟩]}
noncomputable def cM:Gr:={(eE [⟨#[83]⟩,⟨#[67]⟩]) with prods:=[ba ⟨#[98,111,116,104]⟩ 0 [⟨true,5⟩,⟨false,1⟩,⟨false,0⟩,⟨true,6⟩,⟨false,0⟩],ba ⟨#[116,104,101,110]⟩ 0 [⟨true,5⟩,⟨false,1⟩,⟨false,0⟩],ba ⟨#[99,97,108,108]⟩ 0 [⟨false,1⟩,⟨true,7⟩],{(ba ⟨#[98,108,111,99,107]⟩ 0 [⟨true,3⟩,⟨false,0⟩,⟨true,4⟩]) with brk:=true},ba ⟨#[119,111,114,100]⟩ 1 [⟨true,0⟩]],fils:=[⟨2,0,2,1,0,0,[],dia (tv 0)⟩,⟨5,0,0,0,0,0,[5,6],dia (tv 1)⟩]}
noncomputable def eT:Gr:={(eE [⟨#[76]⟩,⟨#[73]⟩]) with prods:=[ba ⟨#[101,109,112,116,121]⟩ 0 [],ba ⟨#[109,111,114,101]⟩ 0 [⟨false,0⟩,⟨false,1⟩],{(ba ⟨#[116,121,112,101]⟩ 1 [⟨true,1⟩,⟨true,0⟩,⟨true,7⟩]) with sco:=⟨false,2,1,0,0⟩},{(ba ⟨#[112,111,105,110,116,101,114]⟩ 1 [⟨true,0⟩,⟨true,2⟩,⟨true,0⟩,⟨true,7⟩]) with sco:=⟨false,3,2,1,2⟩},{(ba ⟨#[112,114,111,100,117,99,116]⟩ 1 [⟨true,0⟩,⟨true,2⟩,⟨true,0⟩,⟨true,7⟩]) with sco:=⟨false,0,0,1,5⟩,rank:= -1},{(ba ⟨#[105,110,110,101,114]⟩ 1 [⟨true,3⟩,⟨false,0⟩,⟨true,4⟩]) with sco:=⟨true,0,0,0,0⟩},{(ba ⟨#[115,116,114,105,99,116]⟩ 1 [⟨true,0⟩,⟨true,7⟩]) with sco:=⟨false,0,0,1,6⟩,cond:=dia (tv 0)}]}
noncomputable def nI:Gr:={(eE [⟨#[66]⟩,⟨#[73]⟩]) with prods:=[ba ⟨#[111,110,101]⟩ 0 [⟨false,1⟩],{(ba ⟨#[108,105,115,116]⟩ 0 [⟨false,0⟩,⟨false,1⟩]) with lay:=[⟨2,0,1⟩]},ba ⟨#[119,111,114,100]⟩ 1 [⟨true,0⟩],{(ba ⟨#[104,101,97,100]⟩ 1 [⟨true,5⟩,⟨true,0⟩,⟨false,0⟩]) with lay:=[⟨3,0,2⟩,⟨1,2,0⟩]},{(ba ⟨#[108,105,110,101]⟩ 1 [⟨true,5⟩,⟨false,0⟩]) with lay:=[⟨4,0,1⟩],cond:=dia (tv 0)}]}
noncomputable def kH:Gr:={(eE [⟨#[83]⟩,⟨#[87]⟩,⟨#[86]⟩]) with prods:=[ba ⟨#[112,97,105,114]⟩ 0 [⟨false,1⟩,⟨false,2⟩],{(ba ⟨#[115,105,110,103,108,101]⟩ 1 [⟨true,0⟩]) with rank:= -1},ba ⟨#[100,111,117,98,108,101]⟩ 1 [⟨true,0⟩,⟨true,0⟩],ba ⟨#[110,111,110,101]⟩ 2 [],ba ⟨#[110,101,120,116]⟩ 2 [⟨true,0⟩,⟨false,2⟩],{(ba ⟨#[109,97,114,107]⟩ 2 [⟨true,1⟩,⟨false,2⟩]) with cond:=dia (tv 1)}],fils:=[⟨3,0,0,0,1,0,[0],dia (tv 0)⟩,⟨4,0,0,0,2,0,[1],de 1⟩]}
noncomputable def kI:Gr:={(eE [⟨#[83]⟩,⟨#[79]⟩,⟨#[80]⟩]) with prods:=[ba ⟨#[97,108,108]⟩ 0 [⟨false,1⟩,⟨true,0⟩,⟨false,1⟩,⟨false,2⟩],ba ⟨#[110,111]⟩ 1 [],ba ⟨#[121,101,115]⟩ 1 [⟨true,1⟩],ba ⟨#[101,110,100]⟩ 2 [],{(ba ⟨#[114,101,115,116]⟩ 2 [⟨true,1⟩,⟨false,2⟩]) with cond:=dia (tv 0)}]}
theorem kJ (F:PH):ae prog 109 #[] F fun r F'=>(∃w,r=.agg w/\GV F' w eT)/\F.le F':=by
 refine Sr ?_
 unfold LF
 refine gr F [⟨#[76]⟩,⟨#[73]⟩] rfl rfl fun b0 b1 F1 h=> ?_
 refine h.rule0 (by decide) fun F2 h=> ?_
 refine h.rule2 (dW 0) (dW 1) (by decide) fun F2 h=> ?_
 refine h.rule3 (cJ 1) (cJ 0) (cJ 7) (by decide) fun F2 h=> ?_
 refine h.rule4 (cJ 0) (cJ 2) (cJ 0) (cJ 7) (by decide) fun F2 h=> ?_
 refine h.rule4 (cJ 0) (cJ 2) (cJ 0) (cJ 7) (by decide) fun F2 h=> ?_
 refine h.rule3 (cJ 3) (dW 0) (cJ 4) (by decide) fun F2 h=> ?_
 refine h.rule2 (cJ 0) (cJ 7) (by decide) fun F2 h=> ?_
 refine h.sco 2 rfl fun F2 h=> ?_
 refine h.sco 3 rfl fun F2 h=> ?_
 refine h.sco 4 rfl fun F2 h=> ?_
 refine h.sco 5 rfl fun F2 h=> ?_
 refine h.sco 6 rfl fun F2 h=> ?_
 refine h.rank 4 rfl fun F2 h=> ?_
 refine h.cnd 6 rfl 0 (by decide) fun F2 h=> ?_
 exact h.fin (R:=fun r F'=>(∃w,r=.agg w/\GV F' w eT)/\F.le F') fun w F' hv hl=>⟨⟨w,rfl,hv⟩,hl⟩
theorem wP (F:PH):ae prog 110 #[] F fun r F'=>(∃w,r=.agg w/\GV F' w nI)/\F.le F':=by
 refine Ss ?_
 unfold LG
 refine gr F [⟨#[66]⟩,⟨#[73]⟩] rfl rfl fun b0 b1 F1 h=> ?_
 refine h.rule1 (dW 1) (by decide) fun F2 h=> ?_
 refine h.rule2 (dW 0) (dW 1) (by decide) fun F2 h=> ?_
 refine h.rule1 (cJ 0) (by decide) fun F2 h=> ?_
 refine h.rule3 (cJ 5) (cJ 0) (dW 0) (by decide) fun F2 h=> ?_
 refine h.rule2 (cJ 5) (dW 0) (by decide) fun F2 h=> ?_
 refine h.lay1 1 rfl fun F2 h=> ?_
 refine h.lay2 3 rfl fun F2 h=> ?_
 refine h.lay1 4 rfl fun F2 h=> ?_
 refine h.cnd 4 rfl 0 (by decide) fun F2 h=> ?_
 exact h.fin (R:=fun r F'=>(∃w,r=.agg w/\GV F' w nI)/\F.le F') fun w F' hv hl=>⟨⟨w,rfl,hv⟩,hl⟩
theorem uq (F:PH):ae prog 112 #[] F fun r F'=>(∃w,r=.agg w/\GV F' w kI)/\F.le F':=by
 refine Sv ?_
 unfold LI
 refine gr F [⟨#[83]⟩,⟨#[79]⟩,⟨#[80]⟩] rfl rfl fun b0 b1 F1 h=> ?_
 refine h.rule4 (dW 1) (cJ 0) (dW 1) (dW 2) (by decide) fun F2 h=> ?_
 refine h.rule0 (by decide) fun F2 h=> ?_
 refine h.rule1 (cJ 1) (by decide) fun F2 h=> ?_
 refine h.rule0 (by decide) fun F2 h=> ?_
 refine h.rule2 (cJ 1) (dW 2) (by decide) fun F2 h=> ?_
 refine h.cnd 4 rfl 0 (by decide) fun F2 h=> ?_
 exact h.fin (R:=fun r F'=>(∃w,r=.agg w/\GV F' w kI)/\F.le F') fun w F' hv hl=>⟨⟨w,rfl,hv⟩,hl⟩
end Go.Proofs.YtenpmjhnhepfdaaGreatDoor
