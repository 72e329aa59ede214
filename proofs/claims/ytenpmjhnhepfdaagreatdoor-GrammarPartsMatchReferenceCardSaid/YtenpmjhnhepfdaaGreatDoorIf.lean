/-
  Known grammars with levels and filters; all of them. Printed by a program (mkIf.py).
-/
import Derived.Test.YtenpmjhnhepfdaaGreatDoorIe
namespace Go.Proofs.YtenpmjhnhepfdaaGreatDoor
open Go Go.Proofs.Tryz Tr
set_option maxRecDepth 10000
theorem dM {F:PH} {b:Nat} {e:TypeId} {x:Int} (q:F b=some (.cells #[vi x] e)):RL F (Sl.mk (some (Addr.mk b 0 none)) 1 1) [x]:=RL.ints.2 (RdS.new q rfl rfl (Nat.le_refl _))
theorem nH {F:PH} {x:Fi} {t n:Sl} (ht:RL F t x.toks) (hn:RL F n x.cond.1):Mem.rep F x (x.arr t n):=⟨t,n,rfl,ht,hn⟩
theorem eA {F:PH} {x:Lv} {p n:Sl} (hp:RL F p x.ps) (hn:RL F n x.cond.1):Mem.rep F x (x.arr p n):=⟨p,n,rfl,hp,hn⟩
theorem un (F:PH):ae prog 111 #[] F fun r F'=>(∃w,r=.agg w/\GV F' w kH)/\F.le F':=by
 refine Su ?_
 unfold LH
 refine gr F [⟨#[83]⟩,⟨#[87]⟩,⟨#[86]⟩] rfl rfl fun b0 b1 F1 h=> ?_
 refine h.rule2 (dW 1) (dW 2) (by decide) fun F2 h=> ?_
 refine h.rule1 (cJ 0) (by decide) fun F2 h=> ?_
 refine h.rule2 (cJ 0) (cJ 0) (by decide) fun F2 h=> ?_
 refine h.rule0 (by decide) fun F2 h=> ?_
 refine h.rule2 (cJ 0) (dW 2) (by decide) fun F2 h=> ?_
 refine h.rule2 (cJ 1) (dW 2) (by decide) fun F2 h=> ?_
 refine h.rank 1 rfl fun F2 h=> ?_
 refine h.cnd 5 rfl 1 (by decide) fun F2 h=> ?_
 refine h.new fun b64 K3 F3 l3 q64 h=> ?_
 refine h.run (fun G _=>aL 0 (by decide) G) fun _ K4 F4 hr l4 h=> ?_
 obtain ⟨_,rfl,hw⟩:=hr
 obtain ⟨m,rfl,hm⟩:=hw.out
 refine ⟨_,rfl,rfl,?_⟩
 refine h.new fun b67 K5 F5 l5 q67 h=> ?_
 refine h.run (fun G _=>aL 1 (by decide) G) fun _ K6 F6 hr l6 h=> ?_
 obtain ⟨_,rfl,hv⟩:=hr
 refine ⟨_,rfl,?_⟩
 refine h.run (fun G hl=>be (by decide) (hv.le hl)) fun _ K7 F7 hr l7 h=> ?_
 obtain ⟨_,rfl,hw⟩:=hr
 obtain ⟨m',rfl,hm'⟩:=hw.out
 refine ⟨_,rfl,rfl,rfl,rfl,?_⟩
 refine h.new fun b71 K8 F8 l8 q71 h=> ?_
 have l58:=aa l6 (aa l7 l8)
 have l48:=aa l5 l58
 refine h.fils (x:=[⟨3,0,0,0,1,0,[0],dia (tv 0)⟩,⟨4,0,0,0,2,0,[1],de 1⟩]) ⟨[_,_],.cons (nH (dM (l48 _ _ (l4 _ _ q64))) (hm.le l48)) (.cons (nH (dM (l58 _ _ q67)) (hm'.le l8)) .nil),RdS.new q71 (by kernel_rfl) rfl (Nat.le_refl _)⟩ fun F9 h=> ?_
 exact h.fin (R:=fun r F'=>(∃w,r=.agg w/\GV F' w kH)/\F.le F') fun w F' hv hl=>⟨⟨w,rfl,hv⟩,aa l3 (aa l4 (aa l48 hl))⟩
noncomputable def uo:Gr:={(eE [⟨#[83]⟩,⟨#[67]⟩]) with prods:=cM.prods}
theorem Aq {K F F0:PH} {b0 b1 b61 b64:Nat} {g:Gr} {c n t s sp l m v:Sl} {vs:List (Array Value)} (hF:F0.le K) (hg:{g with fils:=[⟨2,0,2,1,0,0,[],dia (tv 0)⟩,⟨5,0,0,0,0,0,[5,6],dia (tv 1)⟩]}=cM)
  (st:St K F [pt b64 (.cells (wr (wr (#[.int .i64 0,.int .i64 0,.int .i64 0,.int .i64 0,.int .i64 0,.int .i64 0,.slice none 0 0,.slice none 0 0,.int .i64 0,.int .i64 0,.int .i64 0,.int .i64 0,.int .i64 0,.int .i64 0,.int .i64 0,.slice none 0 0,.slice none 0 0,.int .i64 0]:Array Value) 0 (wr (Array.setIfInBounds (Array.setIfInBounds (Array.setIfInBounds (#[.int .i64 0,.int .i64 0,.int .i64 0,.int .i64 0,.int .i64 0,.int .i64 0,.slice none 0 0,.slice none 0 0,.int .i64 0]:Array Value) 0 (vi 2)) 2 (vi 2)) 3 (vi 1)) 7 (#[m.v,vi (dia (tv 0)).2]:Array Value).toList).toList) 9 (wr (Array.setIfInBounds (Array.setIfInBounds (#[.int .i64 0,.int .i64 0,.int .i64 0,.int .i64 0,.int .i64 0,.int .i64 0,.slice none 0 0,.slice none 0 0,.int .i64 0]:Array Value) 0 (vi 5)) 6 (Sl.v (Sl.mk (some (Addr.mk b61 0 none)) 2 2))) 7 (#[v.v,vi aJ.2]:Array Value).toList).toList) 74),pt b1 (.cells (g.arr c n t s sp l (Sl.mk (some (Addr.mk b64 0 none)) 2 2)) 39),own sp 67 13 (cat vs),pt b0 (.cells zG 39)])
  (hr:bZ K g.prods vs) (hc:RL K c g.conds) (hn:RL K n g.fam.1) (ht:RL K t g.toks) (hs:RL K s g.nons) (hl:RL K l g.lvs) (hm:RL K m (dia (tv 0)).1) (q61:RL K (Sl.mk (some (Addr.mk b61 0 none)) 2 2) [(5:Int),6]):
  oF b0 b1 (fun r F'=>(∃w,r=.agg w/\GV F' w cM)/\F0.le F') F:=by
 unfold oF
 refine ⟨_,st.ld1 rfl,?_⟩
 refine st.run (aL 1 (by decide) _) fun _ K1 F1 hr1 l1 st=> ?_
 obtain ⟨_,rfl,hw⟩:=hr1
 obtain ⟨m1,rfl,hm1⟩:=hw.out
 refine ⟨_,rfl,st.ld1 rfl,_,rfl,by decide,(by show (1:Int)<2;decide),?_⟩
 simp only [aK]
 refine st.putR0 (o:=16) (w':= #[vi 2,vi 0,vi 2,vi 1,vi 0,vi 0,Sl.v Sl.nil,m.v,vi (dia (tv 0)).2,vi 5,vi 0,vi 0,vi 0,vi 0,vi 0,Sl.v (Sl.mk (some (Addr.mk b61 0 none)) 2 2),m1.v,vi (dia (tv 1)).2]) rfl (by simp [ai,Sl.v]) (by rw [dH,dH];show 16+2<=18;decide) (by kernel_rfl) fun F2 st=> ?_
 obtain ⟨K2,l2,⟨H,hA,hH⟩,st⟩:=st.pin
 have q:=hH _ _ hA
 have l12:=aa l1 l2
 have hf:RL K2 (Sl.mk (some (Addr.mk b64 0 none)) 2 2) [(⟨2,0,2,1,0,0,[],dia (tv 0)⟩:Fi),⟨5,0,0,0,0,0,[5,6],dia (tv 1)⟩]:=
  ⟨[_,_],.cons (nH (t:=Sl.nil) (.nil _) (hm.le l12)) (.cons (nH (q61.le l12) (hm1.le l2)) .nil),RdS.new q (by kernel_rfl) rfl (Nat.le_refl _)⟩
 have h:KS K2 F2 b0 b1 cM:=by
  rw [<- hg]
  exact ⟨K2,c,n,t,s,sp,l,_,vs,le_refl' _,st,hr.le l12,hc.le l12,hn.le l12,ht.le l12,hs.le l12,hl.le l12,hf⟩
 exact h.fin (R:=fun r F'=>(∃w,r=.agg w/\GV F' w cM)/\F0.le F') fun w F' hv hl=>⟨⟨w,rfl,hv⟩,aa hF (aa l12 hl)⟩
theorem mX (F:PH):ae prog 108 #[] F fun r F'=>(∃w,r=.agg w/\GV F' w cM)/\F.le F':=by
 refine Sq ?_
 unfold LD
 refine gr F [⟨#[83]⟩,⟨#[67]⟩] rfl rfl fun b0 b1 F1 h=> ?_
 refine h.allv fun b2 K1 F2 n l1 q hn h=> ?_
 refine h.rule5 (cJ 5) (dW 1) (dW 0) (cJ 6) (dW 0) (by decide) fun F2 h=> ?_
 refine h.rule3 (cJ 5) (dW 1) (dW 0) (by decide) fun F2 h=> ?_
 refine h.rule2 (dW 1) (cJ 7) (by decide) fun F2 h=> ?_
 refine h.rule3 (cJ 3) (dW 0) (cJ 4) (by decide) fun F2 h=> ?_
 refine h.rule1 (cJ 0) (by decide) fun F2 h=> ?_
 refine h.brk 3 rfl fun F2 h=> ?_
 refine ⟨_,rfl,aj (h.le _ _ q),?_⟩
 obtain ⟨G,c,n',t,s,sp,l,f,vs,h⟩:=h
 have hn:=hn.le h.k
 have l1:=aa l1 h.k
 refine ⟨?_,?_⟩
 ·refine h.st.run (aL 0 (by decide) _) fun _ K4 F4 hr l4 st=> ?_
  obtain ⟨_,rfl,hw⟩:=hr
  obtain ⟨m,rfl,hm⟩:=hw.out
  refine ⟨_,rfl,aj (st.le _ _ (l4 _ _ (h.k _ _ q))),rfl,?_⟩
  refine st.newG fun b61 K5 F5 l5 q61 _ st=> ?_
  refine ⟨rfl,rfl,rfl,?_⟩
  refine st.new fun b64 F6 st=> ?_
  refine st.set1 (w':=(uo.arr c n' t s sp l (Sl.mk (some (Addr.mk b64 0 none)) 2 2))) (by show 8<9;decide) rfl fun F7 st=> ?_
  have l45:=aa l4 l5
  exact Aq (g:=uo) (aa l1 l45) rfl st (h.r.le l45) (h.c.le l45) (h.n.le l45) (h.t.le l45) (h.s.le l45) (h.l.le l45) (hm.le l5) (RL.ints.2 (RdS.new q61 rfl rfl (Nat.le_refl _)))
 ·refine h.st.newG fun b61 K5 F5 l5 q61 _ st=> ?_
  refine ⟨rfl,?_⟩
  refine st.run (aL 0 (by decide) _) fun _ K4 F4 hr l4 st=> ?_
  obtain ⟨_,rfl,hw⟩:=hr
  obtain ⟨m,rfl,hm⟩:=hw.out
  refine ⟨_,rfl,aj (st.le _ _ (l4 _ _ (l5 _ _ (h.k _ _ q)))),rfl,rfl,rfl,?_⟩
  refine st.new fun b64 F6 st=> ?_
  refine st.set1 (w':=(uo.arr c n' t s sp l (Sl.mk (some (Addr.mk b64 0 none)) 2 2))) (by show 8<9;decide) rfl fun F7 st=> ?_
  have l45:=aa l5 l4
  exact Aq (g:=uo) (aa l1 l45) rfl st (h.r.le l45) (h.c.le l45) (h.n.le l45) (h.t.le l45) (h.s.le l45) (h.l.le l45) hm ((RL.ints.2 (RdS.new q61 rfl rfl (Nat.le_refl _))).le l4)
noncomputable def JZ:Gr:={dq with lvs:=[]}
structure EK (K0 K F:PH) (b0 b1 b2:Nat) (n:Sl):Prop where
 h:KS K F b0 b1 JZ
 l:K0.le K
 q:K b2=some (.cells #[Sl.v n,vi aJ.2] 33)
 n:RL K n aJ.1
theorem EK.up {K0 K F K' F':PH} {b0 b1 b2:Nat} {n:Sl} (H:EK K0 K F b0 b1 b2 n) (l:K.le K') (h:KS K' F' b0 b1 JZ):EK K0 K' F' b0 b1 b2 n:=⟨h,aa H.l l,l _ _ H.q,H.n.le l⟩
theorem EK.row {K0 K F:PH} {b0 b1 b2:Nat} {n:Sl} (H:EK K0 K F b0 b1 b2 n):F.row (Addr.mk b2 0 none) #[Sl.v n,vi aJ.2]:=aj (H.h.le _ _ H.q)
section
variable {K0 K F:PH} {b0 b1 b2:Nat} {n:Sl}
abbrev bY (K0:PH):VR:=fun r F'=>(∃w,r=.agg w/\GV F' w dq)/\K0.le F'
theorem M2 (H:EK K0 K F b0 b1 b2 n) {b73:Nat} (hr:RL K (Sl.mk (some (Addr.mk b73 0 none)) 3 3) dq.lvs):lz b1 b73 b0 (bY K0) F:=by
 unfold lz
 refine H.h.lvs hr fun F9 h=> ?_
 unfold BG
 exact h.fin (R:=bY K0) fun w F' hv hl=>⟨⟨w,rfl,hv⟩,aa H.l hl⟩
theorem gp (H:EK K0 K F b0 b1 b2 n) {m71:Sl} (h71:RL K m71 (de 0).1) {b63:Nat} (q63:K b63=some (.cells #[vi 4] 3)) {b66:Nat} (q66:K b66=some (.cells #[vi 1] 3)) {b69:Nat} (q69:K b69=some (.cells #[vi 0] 3)):fV #[Sl.v m71,vi (de 0).2] b63 #[Sl.v n,vi aJ.2] b66 #[Sl.v n,vi aJ.2] b69 b1 b0 (bY K0) F:=by
 unfold fV
 refine ⟨rfl,?_⟩
 refine ⟨rfl,?_⟩
 refine ⟨rfl,?_⟩
 refine ⟨rfl,?_⟩
 refine H.h.new fun b73 K F l q73 h=> ?_
 replace H:=H.up l h
 replace h71:=h71.le l
 replace q63:=l _ _ q63
 replace q66:=l _ _ q66
 replace q69:=l _ _ q69
 exact M2 H ⟨[_,_,_],.cons (eA (dM q63) H.n) (.cons (eA (dM q66) H.n) (.cons (eA (dM q69) h71) .nil)),RdS.new q73 (by kernel_rfl) rfl (Nat.le_refl _)⟩
theorem gq (H:EK K0 K F b0 b1 b2 n) {m70:Sl} (h70:RL K m70 (dia (tv 0)).1) {b63:Nat} (q63:K b63=some (.cells #[vi 4] 3)) {b66:Nat} (q66:K b66=some (.cells #[vi 1] 3)) {b69:Nat} (q69:K b69=some (.cells #[vi 0] 3)):fW #[Sl.v m70,vi (dia (tv 0)).2] b2 #[Sl.v n,vi aJ.2] #[Sl.v n,vi aJ.2] b63 b66 b69 b1 b0 (bY K0) F:=by
 unfold fW
 refine H.h.run (fun G hl=>be (x:=0) (by decide) ((DV.mk h70).le hl)) fun _ K F hr l h=> ?_
 replace H:=H.up l h
 replace h70:=h70.le l
 replace q63:=l _ _ q63
 replace q66:=l _ _ q66
 replace q69:=l _ _ q69
 obtain ⟨_,rfl,hw⟩:=hr
 obtain ⟨m71,rfl,h71⟩:=hw.out
 refine ⟨_,rfl,?_⟩
 refine ⟨H.row,?_⟩
 refine ⟨H.row,?_⟩
 exact gp H h71 q63 q66 q69
theorem wM (H:EK K0 K F b0 b1 b2 n) {b63:Nat} (q63:K b63=some (.cells #[vi 4] 3)) {b66:Nat} (q66:K b66=some (.cells #[vi 1] 3)) {b69:Nat} (q69:K b69=some (.cells #[vi 0] 3)):oD b2 #[Sl.v n,vi aJ.2] #[Sl.v n,vi aJ.2] b63 b66 b69 b1 b0 (bY K0) F:=by
 unfold oD
 refine H.h.run (fun G _=>aL 0 (by decide) G) fun _ K F hr l h=> ?_
 replace H:=H.up l h
 replace q63:=l _ _ q63
 replace q66:=l _ _ q66
 replace q69:=l _ _ q69
 obtain ⟨_,rfl,hw⟩:=hr
 obtain ⟨m70,rfl,h70⟩:=hw.out
 refine ⟨_,rfl,?_⟩
 refine ⟨H.row,?_⟩
 refine ⟨H.row,?_⟩
 exact gq H h70 q63 q66 q69
theorem pX (H:EK K0 K F b0 b1 b2 n) {m71:Sl} (h71:RL K m71 (de 0).1) {b63:Nat} (q63:K b63=some (.cells #[vi 4] 3)) {b66:Nat} (q66:K b66=some (.cells #[vi 1] 3)):lA #[Sl.v m71,vi (de 0).2] b63 #[Sl.v n,vi aJ.2] b66 #[Sl.v n,vi aJ.2] b1 b0 (bY K0) F:=by
 unfold lA
 refine H.h.new fun b69 K F l q69 h=> ?_
 replace H:=H.up l h
 replace h71:=h71.le l
 replace q63:=l _ _ q63
 replace q66:=l _ _ q66
 exact gp H h71 q63 q66 q69
theorem wO (H:EK K0 K F b0 b1 b2 n) {m70:Sl} (h70:RL K m70 (dia (tv 0)).1) {b63:Nat} (q63:K b63=some (.cells #[vi 4] 3)) {b66:Nat} (q66:K b66=some (.cells #[vi 1] 3)):oE #[Sl.v m70,vi (dia (tv 0)).2] b2 #[Sl.v n,vi aJ.2] #[Sl.v n,vi aJ.2] b63 b66 b1 b0 (bY K0) F:=by
 unfold oE
 refine ⟨?_,?_⟩
 ·refine H.h.new fun b69 K F l q69 h=> ?_
  replace H:=H.up l h
  replace h70:=h70.le l
  replace q63:=l _ _ q63
  replace q66:=l _ _ q66
  exact gq H h70 q63 q66 q69
 ·refine H.h.run (fun G hl=>be (x:=0) (by decide) ((DV.mk h70).le hl)) fun _ K F hr l h=> ?_
  replace H:=H.up l h
  replace h70:=h70.le l
  replace q63:=l _ _ q63
  replace q66:=l _ _ q66
  obtain ⟨_,rfl,hw⟩:=hr
  obtain ⟨m71,rfl,h71⟩:=hw.out
  refine ⟨_,rfl,?_⟩
  refine ⟨H.row,?_⟩
  refine ⟨H.row,?_⟩
  exact pX H h71 q63 q66
theorem EX (H:EK K0 K F b0 b1 b2 n) {b63:Nat} (q63:K b63=some (.cells #[vi 4] 3)) {b66:Nat} (q66:K b66=some (.cells #[vi 1] 3)):vg #[Sl.v n,vi aJ.2] b2 #[Sl.v n,vi aJ.2] b63 b66 b1 b0 (bY K0) F:=by
 unfold vg
 refine ⟨rfl,?_⟩
 refine ⟨?_,?_⟩
 ·refine H.h.new fun b69 K F l q69 h=> ?_
  replace H:=H.up l h
  replace q63:=l _ _ q63
  replace q66:=l _ _ q66
  exact wM H q63 q66 q69
 ·refine H.h.run (fun G _=>aL 0 (by decide) G) fun _ K F hr l h=> ?_
  replace H:=H.up l h
  replace q63:=l _ _ q63
  replace q66:=l _ _ q66
  obtain ⟨_,rfl,hw⟩:=hr
  obtain ⟨m70,rfl,h70⟩:=hw.out
  refine ⟨_,rfl,?_⟩
  refine ⟨H.row,?_⟩
  refine ⟨H.row,?_⟩
  exact wO H h70 q63 q66
theorem sD (H:EK K0 K F b0 b1 b2 n) {b63:Nat} (q63:K b63=some (.cells #[vi 4] 3)) {b66:Nat} (q66:K b66=some (.cells #[vi 1] 3)) {b69:Nat} (q69:K b69=some (.cells #[vi 0] 3)):lC #[Sl.v n,vi aJ.2] b2 #[Sl.v n,vi aJ.2] b63 b66 b69 b1 b0 (bY K0) F:=by
 unfold lC
 refine ⟨rfl,?_⟩
 refine H.h.run (fun G _=>aL 0 (by decide) G) fun _ K F hr l h=> ?_
 replace H:=H.up l h
 replace q63:=l _ _ q63
 replace q66:=l _ _ q66
 replace q69:=l _ _ q69
 obtain ⟨_,rfl,hw⟩:=hr
 obtain ⟨m70,rfl,h70⟩:=hw.out
 refine ⟨_,rfl,?_⟩
 refine ⟨H.row,?_⟩
 refine ⟨H.row,?_⟩
 exact gq H h70 q63 q66 q69
theorem sE (H:EK K0 K F b0 b1 b2 n) {m70:Sl} (h70:RL K m70 (dia (tv 0)).1) {b63:Nat} (q63:K b63=some (.cells #[vi 4] 3)) {b66:Nat} (q66:K b66=some (.cells #[vi 1] 3)) {b69:Nat} (q69:K b69=some (.cells #[vi 0] 3)):lD #[Sl.v n,vi aJ.2] #[Sl.v m70,vi (dia (tv 0)).2] b2 #[Sl.v n,vi aJ.2] b63 b66 b69 b1 b0 (bY K0) F:=by
 unfold lD
 refine ⟨rfl,?_⟩
 refine H.h.run (fun G hl=>be (x:=0) (by decide) ((DV.mk h70).le hl)) fun _ K F hr l h=> ?_
 replace H:=H.up l h
 replace h70:=h70.le l
 replace q63:=l _ _ q63
 replace q66:=l _ _ q66
 replace q69:=l _ _ q69
 obtain ⟨_,rfl,hw⟩:=hr
 obtain ⟨m71,rfl,h71⟩:=hw.out
 refine ⟨_,rfl,?_⟩
 refine ⟨H.row,?_⟩
 refine ⟨H.row,?_⟩
 exact gp H h71 q63 q66 q69
theorem sF (H:EK K0 K F b0 b1 b2 n) {b63:Nat} (q63:K b63=some (.cells #[vi 4] 3)) {b66:Nat} (q66:K b66=some (.cells #[vi 1] 3)) {b69:Nat} (q69:K b69=some (.cells #[vi 0] 3)) {m71:Sl} (h71:RL K m71 (de 0).1):lH #[Sl.v n,vi aJ.2] b63 #[Sl.v n,vi aJ.2] b66 b69 #[Sl.v m71,vi (de 0).2] b1 b0 (bY K0) F:=by
 unfold lH
 refine ⟨rfl,?_⟩
 refine ⟨rfl,?_⟩
 refine ⟨rfl,?_⟩
 refine ⟨rfl,?_⟩
 refine H.h.new fun b73 K F l q73 h=> ?_
 replace H:=H.up l h
 replace q63:=l _ _ q63
 replace q66:=l _ _ q66
 replace q69:=l _ _ q69
 replace h71:=h71.le l
 exact M2 H ⟨[_,_,_],.cons (eA (dM q63) H.n) (.cons (eA (dM q66) H.n) (.cons (eA (dM q69) h71) .nil)),RdS.new q73 (by kernel_rfl) rfl (Nat.le_refl _)⟩
theorem jl (H:EK K0 K F b0 b1 b2 n) {m71:Sl} (h71:RL K m71 (de 0).1) {b63:Nat} (q63:K b63=some (.cells #[vi 4] 3)) {b69:Nat} (q69:K b69=some (.cells #[vi 0] 3)):gF #[Sl.v m71,vi (de 0).2] #[Sl.v n,vi aJ.2] b63 #[Sl.v n,vi aJ.2] b69 b1 b0 (bY K0) F:=by
 unfold gF
 refine ⟨rfl,?_⟩
 refine H.h.new fun b66 K F l q66 h=> ?_
 replace H:=H.up l h
 replace h71:=h71.le l
 replace q63:=l _ _ q63
 replace q69:=l _ _ q69
 exact sF H q63 q66 q69 h71
theorem jm (H:EK K0 K F b0 b1 b2 n) {m70:Sl} (h70:RL K m70 (dia (tv 0)).1) {b63:Nat} (q63:K b63=some (.cells #[vi 4] 3)) {b69:Nat} (q69:K b69=some (.cells #[vi 0] 3)):gH #[Sl.v n,vi aJ.2] #[Sl.v m70,vi (dia (tv 0)).2] b2 #[Sl.v n,vi aJ.2] b63 b69 b1 b0 (bY K0) F:=by
 unfold gH
 refine ⟨?_,?_⟩
 ·refine H.h.new fun b66 K F l q66 h=> ?_
  replace H:=H.up l h
  replace h70:=h70.le l
  replace q63:=l _ _ q63
  replace q69:=l _ _ q69
  exact sE H h70 q63 q66 q69
 ·refine H.h.run (fun G hl=>be (x:=0) (by decide) ((DV.mk h70).le hl)) fun _ K F hr l h=> ?_
  replace H:=H.up l h
  replace h70:=h70.le l
  replace q63:=l _ _ q63
  replace q69:=l _ _ q69
  obtain ⟨_,rfl,hw⟩:=hr
  obtain ⟨m71,rfl,h71⟩:=hw.out
  refine ⟨_,rfl,?_⟩
  refine ⟨H.row,?_⟩
  refine ⟨H.row,?_⟩
  exact jl H h71 q63 q69
theorem CI (H:EK K0 K F b0 b1 b2 n) {b63:Nat} (q63:K b63=some (.cells #[vi 4] 3)) {b69:Nat} (q69:K b69=some (.cells #[vi 0] 3)):qU #[Sl.v n,vi aJ.2] b2 #[Sl.v n,vi aJ.2] b63 b69 b1 b0 (bY K0) F:=by
 unfold qU
 refine ⟨?_,?_⟩
 ·refine H.h.new fun b66 K F l q66 h=> ?_
  replace H:=H.up l h
  replace q63:=l _ _ q63
  replace q69:=l _ _ q69
  exact sD H q63 q66 q69
 ·refine H.h.run (fun G _=>aL 0 (by decide) G) fun _ K F hr l h=> ?_
  replace H:=H.up l h
  replace q63:=l _ _ q63
  replace q69:=l _ _ q69
  obtain ⟨_,rfl,hw⟩:=hr
  obtain ⟨m70,rfl,h70⟩:=hw.out
  refine ⟨_,rfl,?_⟩
  refine ⟨H.row,?_⟩
  refine ⟨H.row,?_⟩
  exact jm H h70 q63 q69
theorem sG (H:EK K0 K F b0 b1 b2 n) {m70:Sl} (h70:RL K m70 (dia (tv 0)).1) {b63:Nat} (q63:K b63=some (.cells #[vi 4] 3)) {b66:Nat} (q66:K b66=some (.cells #[vi 1] 3)):lI #[Sl.v n,vi aJ.2] #[Sl.v m70,vi (dia (tv 0)).2] b2 #[Sl.v n,vi aJ.2] b63 b66 b1 b0 (bY K0) F:=by
 unfold lI
 refine ⟨rfl,?_⟩
 refine ⟨?_,?_⟩
 ·refine H.h.new fun b69 K F l q69 h=> ?_
  replace H:=H.up l h
  replace h70:=h70.le l
  replace q63:=l _ _ q63
  replace q66:=l _ _ q66
  exact gq H h70 q63 q66 q69
 ·refine H.h.run (fun G hl=>be (x:=0) (by decide) ((DV.mk h70).le hl)) fun _ K F hr l h=> ?_
  replace H:=H.up l h
  replace h70:=h70.le l
  replace q63:=l _ _ q63
  replace q66:=l _ _ q66
  obtain ⟨_,rfl,hw⟩:=hr
  obtain ⟨m71,rfl,h71⟩:=hw.out
  refine ⟨_,rfl,?_⟩
  refine ⟨H.row,?_⟩
  refine ⟨H.row,?_⟩
  exact pX H h71 q63 q66
theorem sH (H:EK K0 K F b0 b1 b2 n) {m71:Sl} (h71:RL K m71 (de 0).1) {b63:Nat} (q63:K b63=some (.cells #[vi 4] 3)) {b66:Nat} (q66:K b66=some (.cells #[vi 1] 3)):lJ #[Sl.v n,vi aJ.2] #[Sl.v m71,vi (de 0).2] b63 #[Sl.v n,vi aJ.2] b66 b1 b0 (bY K0) F:=by
 unfold lJ
 refine ⟨rfl,?_⟩
 refine H.h.new fun b69 K F l q69 h=> ?_
 replace H:=H.up l h
 replace h71:=h71.le l
 replace q63:=l _ _ q63
 replace q66:=l _ _ q66
 exact gp H h71 q63 q66 q69
theorem sI (H:EK K0 K F b0 b1 b2 n) {m71:Sl} (h71:RL K m71 (de 0).1) {b63:Nat} (q63:K b63=some (.cells #[vi 4] 3)):lK #[Sl.v n,vi aJ.2] #[Sl.v m71,vi (de 0).2] b63 #[Sl.v n,vi aJ.2] b1 b0 (bY K0) F:=by
 unfold lK
 refine ⟨?_,?_⟩
 ·refine H.h.new fun b66 K F l q66 h=> ?_
  replace H:=H.up l h
  replace h71:=h71.le l
  replace q63:=l _ _ q63
  exact sH H h71 q63 q66
 ·refine H.h.new fun b69 K F l q69 h=> ?_
  replace H:=H.up l h
  replace h71:=h71.le l
  replace q63:=l _ _ q63
  exact jl H h71 q63 q69
theorem CJ (H:EK K0 K F b0 b1 b2 n) {m70:Sl} (h70:RL K m70 (dia (tv 0)).1) {b63:Nat} (q63:K b63=some (.cells #[vi 4] 3)):qV #[Sl.v n,vi aJ.2] #[Sl.v m70,vi (dia (tv 0)).2] b2 #[Sl.v n,vi aJ.2] b63 b1 b0 (bY K0) F:=by
 unfold qV
 refine ⟨?_,?_,?_⟩
 ·refine H.h.new fun b66 K F l q66 h=> ?_
  replace H:=H.up l h
  replace h70:=h70.le l
  replace q63:=l _ _ q63
  exact sG H h70 q63 q66
 ·refine H.h.new fun b69 K F l q69 h=> ?_
  replace H:=H.up l h
  replace h70:=h70.le l
  replace q63:=l _ _ q63
  exact jm H h70 q63 q69
 ·refine H.h.run (fun G hl=>be (x:=0) (by decide) ((DV.mk h70).le hl)) fun _ K F hr l h=> ?_
  replace H:=H.up l h
  replace h70:=h70.le l
  replace q63:=l _ _ q63
  obtain ⟨_,rfl,hw⟩:=hr
  obtain ⟨m71,rfl,h71⟩:=hw.out
  refine ⟨_,rfl,?_⟩
  refine ⟨H.row,?_⟩
  refine ⟨H.row,?_⟩
  exact sI H h71 q63
theorem EY (H:EK K0 K F b0 b1 b2 n) {b63:Nat} (q63:K b63=some (.cells #[vi 4] 3)):vj #[Sl.v n,vi aJ.2] #[Sl.v n,vi aJ.2] b2 b63 b1 b0 (bY K0) F:=by
 unfold vj
 refine ⟨rfl,?_⟩
 refine ⟨?_,?_,?_⟩
 ·refine H.h.new fun b66 K F l q66 h=> ?_
  replace H:=H.up l h
  replace q63:=l _ _ q63
  exact EX H q63 q66
 ·refine H.h.new fun b69 K F l q69 h=> ?_
  replace H:=H.up l h
  replace q63:=l _ _ q63
  exact CI H q63 q69
 ·refine H.h.run (fun G _=>aL 0 (by decide) G) fun _ K F hr l h=> ?_
  replace H:=H.up l h
  replace q63:=l _ _ q63
  obtain ⟨_,rfl,hw⟩:=hr
  obtain ⟨m70,rfl,h70⟩:=hw.out
  refine ⟨_,rfl,?_⟩
  refine ⟨H.row,?_⟩
  refine ⟨H.row,?_⟩
  exact CJ H h70 q63
theorem CL (H:EK K0 K F b0 b1 b2 n) {b63:Nat} (q63:K b63=some (.cells #[vi 4] 3)) {b66:Nat} (q66:K b66=some (.cells #[vi 1] 3)):qW #[Sl.v n,vi aJ.2] b2 #[Sl.v n,vi aJ.2] b63 b66 b1 b0 (bY K0) F:=by
 unfold qW
 refine ⟨rfl,?_⟩
 refine ⟨?_,?_⟩
 ·refine H.h.new fun b69 K F l q69 h=> ?_
  replace H:=H.up l h
  replace q63:=l _ _ q63
  replace q66:=l _ _ q66
  exact wM H q63 q66 q69
 ·refine H.h.run (fun G _=>aL 0 (by decide) G) fun _ K F hr l h=> ?_
  replace H:=H.up l h
  replace q63:=l _ _ q63
  replace q66:=l _ _ q66
  obtain ⟨_,rfl,hw⟩:=hr
  obtain ⟨m70,rfl,h70⟩:=hw.out
  refine ⟨_,rfl,?_⟩
  refine ⟨H.row,?_⟩
  refine ⟨H.row,?_⟩
  exact wO H h70 q63 q66
theorem sJ (H:EK K0 K F b0 b1 b2 n) {b63:Nat} (q63:K b63=some (.cells #[vi 4] 3)) {b66:Nat} (q66:K b66=some (.cells #[vi 1] 3)) {b69:Nat} (q69:K b69=some (.cells #[vi 0] 3)):lL #[Sl.v n,vi aJ.2] b2 #[Sl.v n,vi aJ.2] b63 b66 b69 b1 b0 (bY K0) F:=by
 unfold lL
 refine ⟨rfl,?_⟩
 refine H.h.run (fun G _=>aL 0 (by decide) G) fun _ K F hr l h=> ?_
 replace H:=H.up l h
 replace q63:=l _ _ q63
 replace q66:=l _ _ q66
 replace q69:=l _ _ q69
 obtain ⟨_,rfl,hw⟩:=hr
 obtain ⟨m70,rfl,h70⟩:=hw.out
 refine ⟨_,rfl,?_⟩
 refine ⟨H.row,?_⟩
 refine ⟨H.row,?_⟩
 exact gq H h70 q63 q66 q69
theorem sK (H:EK K0 K F b0 b1 b2 n) {m70:Sl} (h70:RL K m70 (dia (tv 0)).1) {b63:Nat} (q63:K b63=some (.cells #[vi 4] 3)) {b66:Nat} (q66:K b66=some (.cells #[vi 1] 3)) {b69:Nat} (q69:K b69=some (.cells #[vi 0] 3)):lM #[Sl.v n,vi aJ.2] #[Sl.v m70,vi (dia (tv 0)).2] b2 #[Sl.v n,vi aJ.2] b63 b66 b69 b1 b0 (bY K0) F:=by
 unfold lM
 refine ⟨rfl,?_⟩
 refine H.h.run (fun G hl=>be (x:=0) (by decide) ((DV.mk h70).le hl)) fun _ K F hr l h=> ?_
 replace H:=H.up l h
 replace h70:=h70.le l
 replace q63:=l _ _ q63
 replace q66:=l _ _ q66
 replace q69:=l _ _ q69
 obtain ⟨_,rfl,hw⟩:=hr
 obtain ⟨m71,rfl,h71⟩:=hw.out
 refine ⟨_,rfl,?_⟩
 refine ⟨H.row,?_⟩
 refine ⟨H.row,?_⟩
 exact gp H h71 q63 q66 q69
theorem sL (H:EK K0 K F b0 b1 b2 n) {b63:Nat} (q63:K b63=some (.cells #[vi 4] 3)) {b66:Nat} (q66:K b66=some (.cells #[vi 1] 3)) {b69:Nat} (q69:K b69=some (.cells #[vi 0] 3)) {m71:Sl} (h71:RL K m71 (de 0).1):lN #[Sl.v n,vi aJ.2] b63 b66 #[Sl.v n,vi aJ.2] b69 #[Sl.v m71,vi (de 0).2] b1 b0 (bY K0) F:=by
 unfold lN
 refine ⟨rfl,?_⟩
 refine ⟨rfl,?_⟩
 refine ⟨rfl,?_⟩
 refine ⟨rfl,?_⟩
 refine H.h.new fun b73 K F l q73 h=> ?_
 replace H:=H.up l h
 replace q63:=l _ _ q63
 replace q66:=l _ _ q66
 replace q69:=l _ _ q69
 replace h71:=h71.le l
 exact M2 H ⟨[_,_,_],.cons (eA (dM q63) H.n) (.cons (eA (dM q66) H.n) (.cons (eA (dM q69) h71) .nil)),RdS.new q73 (by kernel_rfl) rfl (Nat.le_refl _)⟩
theorem jo (H:EK K0 K F b0 b1 b2 n) {m71:Sl} (h71:RL K m71 (de 0).1) {b66:Nat} (q66:K b66=some (.cells #[vi 1] 3)) {b69:Nat} (q69:K b69=some (.cells #[vi 0] 3)):gI #[Sl.v m71,vi (de 0).2] #[Sl.v n,vi aJ.2] b66 #[Sl.v n,vi aJ.2] b69 b1 b0 (bY K0) F:=by
 unfold gI
 refine ⟨rfl,?_⟩
 refine H.h.new fun b63 K F l q63 h=> ?_
 replace H:=H.up l h
 replace h71:=h71.le l
 replace q66:=l _ _ q66
 replace q69:=l _ _ q69
 exact sL H q63 q66 q69 h71
theorem jp (H:EK K0 K F b0 b1 b2 n) {m70:Sl} (h70:RL K m70 (dia (tv 0)).1) {b66:Nat} (q66:K b66=some (.cells #[vi 1] 3)) {b69:Nat} (q69:K b69=some (.cells #[vi 0] 3)):gJ #[Sl.v n,vi aJ.2] #[Sl.v m70,vi (dia (tv 0)).2] b2 #[Sl.v n,vi aJ.2] b66 b69 b1 b0 (bY K0) F:=by
 unfold gJ
 refine ⟨?_,?_⟩
 ·refine H.h.new fun b63 K F l q63 h=> ?_
  replace H:=H.up l h
  replace h70:=h70.le l
  replace q66:=l _ _ q66
  replace q69:=l _ _ q69
  exact sK H h70 q63 q66 q69
 ·refine H.h.run (fun G hl=>be (x:=0) (by decide) ((DV.mk h70).le hl)) fun _ K F hr l h=> ?_
  replace H:=H.up l h
  replace h70:=h70.le l
  replace q66:=l _ _ q66
  replace q69:=l _ _ q69
  obtain ⟨_,rfl,hw⟩:=hr
  obtain ⟨m71,rfl,h71⟩:=hw.out
  refine ⟨_,rfl,?_⟩
  refine ⟨H.row,?_⟩
  refine ⟨H.row,?_⟩
  exact jo H h71 q66 q69
theorem CM (H:EK K0 K F b0 b1 b2 n) {b66:Nat} (q66:K b66=some (.cells #[vi 1] 3)) {b69:Nat} (q69:K b69=some (.cells #[vi 0] 3)):qX #[Sl.v n,vi aJ.2] b2 #[Sl.v n,vi aJ.2] b66 b69 b1 b0 (bY K0) F:=by
 unfold qX
 refine ⟨?_,?_⟩
 ·refine H.h.new fun b63 K F l q63 h=> ?_
  replace H:=H.up l h
  replace q66:=l _ _ q66
  replace q69:=l _ _ q69
  exact sJ H q63 q66 q69
 ·refine H.h.run (fun G _=>aL 0 (by decide) G) fun _ K F hr l h=> ?_
  replace H:=H.up l h
  replace q66:=l _ _ q66
  replace q69:=l _ _ q69
  obtain ⟨_,rfl,hw⟩:=hr
  obtain ⟨m70,rfl,h70⟩:=hw.out
  refine ⟨_,rfl,?_⟩
  refine ⟨H.row,?_⟩
  refine ⟨H.row,?_⟩
  exact jp H h70 q66 q69
theorem sM (H:EK K0 K F b0 b1 b2 n) {m70:Sl} (h70:RL K m70 (dia (tv 0)).1) {b63:Nat} (q63:K b63=some (.cells #[vi 4] 3)) {b66:Nat} (q66:K b66=some (.cells #[vi 1] 3)):lO #[Sl.v n,vi aJ.2] #[Sl.v m70,vi (dia (tv 0)).2] b2 #[Sl.v n,vi aJ.2] b63 b66 b1 b0 (bY K0) F:=by
 unfold lO
 refine ⟨rfl,?_⟩
 refine ⟨?_,?_⟩
 ·refine H.h.new fun b69 K F l q69 h=> ?_
  replace H:=H.up l h
  replace h70:=h70.le l
  replace q63:=l _ _ q63
  replace q66:=l _ _ q66
  exact gq H h70 q63 q66 q69
 ·refine H.h.run (fun G hl=>be (x:=0) (by decide) ((DV.mk h70).le hl)) fun _ K F hr l h=> ?_
  replace H:=H.up l h
  replace h70:=h70.le l
  replace q63:=l _ _ q63
  replace q66:=l _ _ q66
  obtain ⟨_,rfl,hw⟩:=hr
  obtain ⟨m71,rfl,h71⟩:=hw.out
  refine ⟨_,rfl,?_⟩
  refine ⟨H.row,?_⟩
  refine ⟨H.row,?_⟩
  exact pX H h71 q63 q66
theorem sN (H:EK K0 K F b0 b1 b2 n) {m71:Sl} (h71:RL K m71 (de 0).1) {b63:Nat} (q63:K b63=some (.cells #[vi 4] 3)) {b66:Nat} (q66:K b66=some (.cells #[vi 1] 3)):lP #[Sl.v n,vi aJ.2] #[Sl.v m71,vi (de 0).2] b63 b66 #[Sl.v n,vi aJ.2] b1 b0 (bY K0) F:=by
 unfold lP
 refine ⟨rfl,?_⟩
 refine H.h.new fun b69 K F l q69 h=> ?_
 replace H:=H.up l h
 replace h71:=h71.le l
 replace q63:=l _ _ q63
 replace q66:=l _ _ q66
 exact gp H h71 q63 q66 q69
theorem sO (H:EK K0 K F b0 b1 b2 n) {m71:Sl} (h71:RL K m71 (de 0).1) {b66:Nat} (q66:K b66=some (.cells #[vi 1] 3)):lQ #[Sl.v n,vi aJ.2] #[Sl.v m71,vi (de 0).2] b66 #[Sl.v n,vi aJ.2] b1 b0 (bY K0) F:=by
 unfold lQ
 refine ⟨?_,?_⟩
 ·refine H.h.new fun b63 K F l q63 h=> ?_
  replace H:=H.up l h
  replace h71:=h71.le l
  replace q66:=l _ _ q66
  exact sN H h71 q63 q66
 ·refine H.h.new fun b69 K F l q69 h=> ?_
  replace H:=H.up l h
  replace h71:=h71.le l
  replace q66:=l _ _ q66
  exact jo H h71 q66 q69
theorem CN (H:EK K0 K F b0 b1 b2 n) {m70:Sl} (h70:RL K m70 (dia (tv 0)).1) {b66:Nat} (q66:K b66=some (.cells #[vi 1] 3)):qY #[Sl.v n,vi aJ.2] #[Sl.v m70,vi (dia (tv 0)).2] b2 #[Sl.v n,vi aJ.2] b66 b1 b0 (bY K0) F:=by
 unfold qY
 refine ⟨?_,?_,?_⟩
 ·refine H.h.new fun b63 K F l q63 h=> ?_
  replace H:=H.up l h
  replace h70:=h70.le l
  replace q66:=l _ _ q66
  exact sM H h70 q63 q66
 ·refine H.h.new fun b69 K F l q69 h=> ?_
  replace H:=H.up l h
  replace h70:=h70.le l
  replace q66:=l _ _ q66
  exact jp H h70 q66 q69
 ·refine H.h.run (fun G hl=>be (x:=0) (by decide) ((DV.mk h70).le hl)) fun _ K F hr l h=> ?_
  replace H:=H.up l h
  replace h70:=h70.le l
  replace q66:=l _ _ q66
  obtain ⟨_,rfl,hw⟩:=hr
  obtain ⟨m71,rfl,h71⟩:=hw.out
  refine ⟨_,rfl,?_⟩
  refine ⟨H.row,?_⟩
  refine ⟨H.row,?_⟩
  exact sO H h71 q66
theorem CO (H:EK K0 K F b0 b1 b2 n) {b66:Nat} (q66:K b66=some (.cells #[vi 1] 3)):qZ #[Sl.v n,vi aJ.2] #[Sl.v n,vi aJ.2] b2 b66 b1 b0 (bY K0) F:=by
 unfold qZ
 refine ⟨rfl,?_⟩
 refine ⟨?_,?_,?_⟩
 ·refine H.h.new fun b63 K F l q63 h=> ?_
  replace H:=H.up l h
  replace q66:=l _ _ q66
  exact CL H q63 q66
 ·refine H.h.new fun b69 K F l q69 h=> ?_
  replace H:=H.up l h
  replace q66:=l _ _ q66
  exact CM H q66 q69
 ·refine H.h.run (fun G _=>aL 0 (by decide) G) fun _ K F hr l h=> ?_
  replace H:=H.up l h
  replace q66:=l _ _ q66
  obtain ⟨_,rfl,hw⟩:=hr
  obtain ⟨m70,rfl,h70⟩:=hw.out
  refine ⟨_,rfl,?_⟩
  refine ⟨H.row,?_⟩
  refine ⟨H.row,?_⟩
  exact CN H h70 q66
theorem CP (H:EK K0 K F b0 b1 b2 n) {b63:Nat} (q63:K b63=some (.cells #[vi 4] 3)) {b69:Nat} (q69:K b69=some (.cells #[vi 0] 3)):q0 #[Sl.v n,vi aJ.2] #[Sl.v n,vi aJ.2] b2 b63 b69 b1 b0 (bY K0) F:=by
 unfold q0
 refine ⟨rfl,?_⟩
 refine ⟨?_,?_⟩
 ·refine H.h.new fun b66 K F l q66 h=> ?_
  replace H:=H.up l h
  replace q63:=l _ _ q63
  replace q69:=l _ _ q69
  exact sD H q63 q66 q69
 ·refine H.h.run (fun G _=>aL 0 (by decide) G) fun _ K F hr l h=> ?_
  replace H:=H.up l h
  replace q63:=l _ _ q63
  replace q69:=l _ _ q69
  obtain ⟨_,rfl,hw⟩:=hr
  obtain ⟨m70,rfl,h70⟩:=hw.out
  refine ⟨_,rfl,?_⟩
  refine ⟨H.row,?_⟩
  refine ⟨H.row,?_⟩
  exact jm H h70 q63 q69
theorem CQ (H:EK K0 K F b0 b1 b2 n) {b66:Nat} (q66:K b66=some (.cells #[vi 1] 3)) {b69:Nat} (q69:K b69=some (.cells #[vi 0] 3)):ra #[Sl.v n,vi aJ.2] #[Sl.v n,vi aJ.2] b2 b66 b69 b1 b0 (bY K0) F:=by
 unfold ra
 refine ⟨rfl,?_⟩
 refine ⟨?_,?_⟩
 ·refine H.h.new fun b63 K F l q63 h=> ?_
  replace H:=H.up l h
  replace q66:=l _ _ q66
  replace q69:=l _ _ q69
  exact sJ H q63 q66 q69
 ·refine H.h.run (fun G _=>aL 0 (by decide) G) fun _ K F hr l h=> ?_
  replace H:=H.up l h
  replace q66:=l _ _ q66
  replace q69:=l _ _ q69
  obtain ⟨_,rfl,hw⟩:=hr
  obtain ⟨m70,rfl,h70⟩:=hw.out
  refine ⟨_,rfl,?_⟩
  refine ⟨H.row,?_⟩
  refine ⟨H.row,?_⟩
  exact jp H h70 q66 q69
theorem CR (H:EK K0 K F b0 b1 b2 n) {m70:Sl} (h70:RL K m70 (dia (tv 0)).1) {b63:Nat} (q63:K b63=some (.cells #[vi 4] 3)) {b69:Nat} (q69:K b69=some (.cells #[vi 0] 3)):rb #[Sl.v n,vi aJ.2] #[Sl.v n,vi aJ.2] #[Sl.v m70,vi (dia (tv 0)).2] b2 b63 b69 b1 b0 (bY K0) F:=by
 unfold rb
 refine ⟨rfl,?_⟩
 refine ⟨?_,?_⟩
 ·refine H.h.new fun b66 K F l q66 h=> ?_
  replace H:=H.up l h
  replace h70:=h70.le l
  replace q63:=l _ _ q63
  replace q69:=l _ _ q69
  exact sE H h70 q63 q66 q69
 ·refine H.h.run (fun G hl=>be (x:=0) (by decide) ((DV.mk h70).le hl)) fun _ K F hr l h=> ?_
  replace H:=H.up l h
  replace h70:=h70.le l
  replace q63:=l _ _ q63
  replace q69:=l _ _ q69
  obtain ⟨_,rfl,hw⟩:=hr
  obtain ⟨m71,rfl,h71⟩:=hw.out
  refine ⟨_,rfl,?_⟩
  refine ⟨H.row,?_⟩
  refine ⟨H.row,?_⟩
  exact jl H h71 q63 q69
theorem CS (H:EK K0 K F b0 b1 b2 n) {m70:Sl} (h70:RL K m70 (dia (tv 0)).1) {b66:Nat} (q66:K b66=some (.cells #[vi 1] 3)) {b69:Nat} (q69:K b69=some (.cells #[vi 0] 3)):rc #[Sl.v n,vi aJ.2] #[Sl.v n,vi aJ.2] #[Sl.v m70,vi (dia (tv 0)).2] b2 b66 b69 b1 b0 (bY K0) F:=by
 unfold rc
 refine ⟨rfl,?_⟩
 refine ⟨?_,?_⟩
 ·refine H.h.new fun b63 K F l q63 h=> ?_
  replace H:=H.up l h
  replace h70:=h70.le l
  replace q66:=l _ _ q66
  replace q69:=l _ _ q69
  exact sK H h70 q63 q66 q69
 ·refine H.h.run (fun G hl=>be (x:=0) (by decide) ((DV.mk h70).le hl)) fun _ K F hr l h=> ?_
  replace H:=H.up l h
  replace h70:=h70.le l
  replace q66:=l _ _ q66
  replace q69:=l _ _ q69
  obtain ⟨_,rfl,hw⟩:=hr
  obtain ⟨m71,rfl,h71⟩:=hw.out
  refine ⟨_,rfl,?_⟩
  refine ⟨H.row,?_⟩
  refine ⟨H.row,?_⟩
  exact jo H h71 q66 q69
theorem CT (H:EK K0 K F b0 b1 b2 n) {b63:Nat} (q63:K b63=some (.cells #[vi 4] 3)) {b69:Nat} (q69:K b69=some (.cells #[vi 0] 3)) {m71:Sl} (h71:RL K m71 (de 0).1):rg #[Sl.v n,vi aJ.2] #[Sl.v n,vi aJ.2] b63 b69 #[Sl.v m71,vi (de 0).2] b1 b0 (bY K0) F:=by
 unfold rg
 refine ⟨rfl,?_⟩
 refine H.h.new fun b66 K F l q66 h=> ?_
 replace H:=H.up l h
 replace q63:=l _ _ q63
 replace q69:=l _ _ q69
 replace h71:=h71.le l
 exact sF H q63 q66 q69 h71
theorem CU (H:EK K0 K F b0 b1 b2 n) {b66:Nat} (q66:K b66=some (.cells #[vi 1] 3)) {b69:Nat} (q69:K b69=some (.cells #[vi 0] 3)) {m71:Sl} (h71:RL K m71 (de 0).1):ri #[Sl.v n,vi aJ.2] #[Sl.v n,vi aJ.2] b66 b69 #[Sl.v m71,vi (de 0).2] b1 b0 (bY K0) F:=by
 unfold ri
 refine ⟨rfl,?_⟩
 refine H.h.new fun b63 K F l q63 h=> ?_
 replace H:=H.up l h
 replace q66:=l _ _ q66
 replace q69:=l _ _ q69
 replace h71:=h71.le l
 exact sL H q63 q66 q69 h71
theorem sP (H:EK K0 K F b0 b1 b2 n) {m71:Sl} (h71:RL K m71 (de 0).1) {b69:Nat} (q69:K b69=some (.cells #[vi 0] 3)):lR #[Sl.v m71,vi (de 0).2] #[Sl.v n,vi aJ.2] #[Sl.v n,vi aJ.2] b69 b1 b0 (bY K0) F:=by
 unfold lR
 refine ⟨rfl,?_⟩
 refine ⟨?_,?_⟩
 ·refine H.h.new fun b63 K F l q63 h=> ?_
  replace H:=H.up l h
  replace h71:=h71.le l
  replace q69:=l _ _ q69
  exact CT H q63 q69 h71
 ·refine H.h.new fun b66 K F l q66 h=> ?_
  replace H:=H.up l h
  replace h71:=h71.le l
  replace q69:=l _ _ q69
  exact CU H q66 q69 h71
theorem sQ (H:EK K0 K F b0 b1 b2 n) {m70:Sl} (h70:RL K m70 (dia (tv 0)).1) {b69:Nat} (q69:K b69=some (.cells #[vi 0] 3)):lS #[Sl.v n,vi aJ.2] #[Sl.v n,vi aJ.2] #[Sl.v m70,vi (dia (tv 0)).2] b2 b69 b1 b0 (bY K0) F:=by
 unfold lS
 refine ⟨?_,?_,?_⟩
 ·refine H.h.new fun b63 K F l q63 h=> ?_
  replace H:=H.up l h
  replace h70:=h70.le l
  replace q69:=l _ _ q69
  exact CR H h70 q63 q69
 ·refine H.h.new fun b66 K F l q66 h=> ?_
  replace H:=H.up l h
  replace h70:=h70.le l
  replace q69:=l _ _ q69
  exact CS H h70 q66 q69
 ·refine H.h.run (fun G hl=>be (x:=0) (by decide) ((DV.mk h70).le hl)) fun _ K F hr l h=> ?_
  replace H:=H.up l h
  replace h70:=h70.le l
  replace q69:=l _ _ q69
  obtain ⟨_,rfl,hw⟩:=hr
  obtain ⟨m71,rfl,h71⟩:=hw.out
  refine ⟨_,rfl,?_⟩
  refine ⟨H.row,?_⟩
  refine ⟨H.row,?_⟩
  exact sP H h71 q69
theorem CV (H:EK K0 K F b0 b1 b2 n) {b69:Nat} (q69:K b69=some (.cells #[vi 0] 3)):rj #[Sl.v n,vi aJ.2] #[Sl.v n,vi aJ.2] b2 b69 b1 b0 (bY K0) F:=by
 unfold rj
 refine ⟨?_,?_,?_⟩
 ·refine H.h.new fun b63 K F l q63 h=> ?_
  replace H:=H.up l h
  replace q69:=l _ _ q69
  exact CP H q63 q69
 ·refine H.h.new fun b66 K F l q66 h=> ?_
  replace H:=H.up l h
  replace q69:=l _ _ q69
  exact CQ H q66 q69
 ·refine H.h.run (fun G _=>aL 0 (by decide) G) fun _ K F hr l h=> ?_
  replace H:=H.up l h
  replace q69:=l _ _ q69
  obtain ⟨_,rfl,hw⟩:=hr
  obtain ⟨m70,rfl,h70⟩:=hw.out
  refine ⟨_,rfl,?_⟩
  refine ⟨H.row,?_⟩
  refine ⟨H.row,?_⟩
  exact sQ H h70 q69
theorem CW (H:EK K0 K F b0 b1 b2 n) {m70:Sl} (h70:RL K m70 (dia (tv 0)).1) {b63:Nat} (q63:K b63=some (.cells #[vi 4] 3)):rk #[Sl.v n,vi aJ.2] #[Sl.v n,vi aJ.2] #[Sl.v m70,vi (dia (tv 0)).2] b2 b63 b1 b0 (bY K0) F:=by
 unfold rk
 refine ⟨rfl,?_⟩
 refine ⟨?_,?_,?_⟩
 ·refine H.h.new fun b66 K F l q66 h=> ?_
  replace H:=H.up l h
  replace h70:=h70.le l
  replace q63:=l _ _ q63
  exact sG H h70 q63 q66
 ·refine H.h.new fun b69 K F l q69 h=> ?_
  replace H:=H.up l h
  replace h70:=h70.le l
  replace q63:=l _ _ q63
  exact jm H h70 q63 q69
 ·refine H.h.run (fun G hl=>be (x:=0) (by decide) ((DV.mk h70).le hl)) fun _ K F hr l h=> ?_
  replace H:=H.up l h
  replace h70:=h70.le l
  replace q63:=l _ _ q63
  obtain ⟨_,rfl,hw⟩:=hr
  obtain ⟨m71,rfl,h71⟩:=hw.out
  refine ⟨_,rfl,?_⟩
  refine ⟨H.row,?_⟩
  refine ⟨H.row,?_⟩
  exact sI H h71 q63
theorem CX (H:EK K0 K F b0 b1 b2 n) {m70:Sl} (h70:RL K m70 (dia (tv 0)).1) {b66:Nat} (q66:K b66=some (.cells #[vi 1] 3)):rm #[Sl.v n,vi aJ.2] #[Sl.v n,vi aJ.2] #[Sl.v m70,vi (dia (tv 0)).2] b2 b66 b1 b0 (bY K0) F:=by
 unfold rm
 refine ⟨rfl,?_⟩
 refine ⟨?_,?_,?_⟩
 ·refine H.h.new fun b63 K F l q63 h=> ?_
  replace H:=H.up l h
  replace h70:=h70.le l
  replace q66:=l _ _ q66
  exact sM H h70 q63 q66
 ·refine H.h.new fun b69 K F l q69 h=> ?_
  replace H:=H.up l h
  replace h70:=h70.le l
  replace q66:=l _ _ q66
  exact jp H h70 q66 q69
 ·refine H.h.run (fun G hl=>be (x:=0) (by decide) ((DV.mk h70).le hl)) fun _ K F hr l h=> ?_
  replace H:=H.up l h
  replace h70:=h70.le l
  replace q66:=l _ _ q66
  obtain ⟨_,rfl,hw⟩:=hr
  obtain ⟨m71,rfl,h71⟩:=hw.out
  refine ⟨_,rfl,?_⟩
  refine ⟨H.row,?_⟩
  refine ⟨H.row,?_⟩
  exact sO H h71 q66
theorem CY (H:EK K0 K F b0 b1 b2 n) {m71:Sl} (h71:RL K m71 (de 0).1) {b63:Nat} (q63:K b63=some (.cells #[vi 4] 3)):ro #[Sl.v n,vi aJ.2] #[Sl.v n,vi aJ.2] #[Sl.v m71,vi (de 0).2] b63 b1 b0 (bY K0) F:=by
 unfold ro
 refine ⟨rfl,?_⟩
 refine ⟨?_,?_⟩
 ·refine H.h.new fun b66 K F l q66 h=> ?_
  replace H:=H.up l h
  replace h71:=h71.le l
  replace q63:=l _ _ q63
  exact sH H h71 q63 q66
 ·refine H.h.new fun b69 K F l q69 h=> ?_
  replace H:=H.up l h
  replace h71:=h71.le l
  replace q63:=l _ _ q63
  exact jl H h71 q63 q69
theorem CZ (H:EK K0 K F b0 b1 b2 n) {m71:Sl} (h71:RL K m71 (de 0).1) {b66:Nat} (q66:K b66=some (.cells #[vi 1] 3)):rq #[Sl.v n,vi aJ.2] #[Sl.v n,vi aJ.2] #[Sl.v m71,vi (de 0).2] b66 b1 b0 (bY K0) F:=by
 unfold rq
 refine ⟨rfl,?_⟩
 refine ⟨?_,?_⟩
 ·refine H.h.new fun b63 K F l q63 h=> ?_
  replace H:=H.up l h
  replace h71:=h71.le l
  replace q66:=l _ _ q66
  exact sN H h71 q63 q66
 ·refine H.h.new fun b69 K F l q69 h=> ?_
  replace H:=H.up l h
  replace h71:=h71.le l
  replace q66:=l _ _ q66
  exact jo H h71 q66 q69
theorem C0 (H:EK K0 K F b0 b1 b2 n) {m71:Sl} (h71:RL K m71 (de 0).1):ru #[Sl.v n,vi aJ.2] #[Sl.v n,vi aJ.2] #[Sl.v m71,vi (de 0).2] b1 b0 (bY K0) F:=by
 unfold ru
 refine ⟨?_,?_,?_⟩
 ·refine H.h.new fun b63 K F l q63 h=> ?_
  replace H:=H.up l h
  replace h71:=h71.le l
  exact CY H h71 q63
 ·refine H.h.new fun b66 K F l q66 h=> ?_
  replace H:=H.up l h
  replace h71:=h71.le l
  exact CZ H h71 q66
 ·refine H.h.new fun b69 K F l q69 h=> ?_
  replace H:=H.up l h
  replace h71:=h71.le l
  exact sP H h71 q69
theorem C1 (H:EK K0 K F b0 b1 b2 n) {m70:Sl} (h70:RL K m70 (dia (tv 0)).1):rv #[Sl.v n,vi aJ.2] #[Sl.v n,vi aJ.2] #[Sl.v m70,vi (dia (tv 0)).2] b2 b1 b0 (bY K0) F:=by
 unfold rv
 refine ⟨?_,?_,?_,?_⟩
 ·refine H.h.new fun b63 K F l q63 h=> ?_
  replace H:=H.up l h
  replace h70:=h70.le l
  exact CW H h70 q63
 ·refine H.h.new fun b66 K F l q66 h=> ?_
  replace H:=H.up l h
  replace h70:=h70.le l
  exact CX H h70 q66
 ·refine H.h.new fun b69 K F l q69 h=> ?_
  replace H:=H.up l h
  replace h70:=h70.le l
  exact sQ H h70 q69
 ·refine H.h.run (fun G hl=>be (x:=0) (by decide) ((DV.mk h70).le hl)) fun _ K F hr l h=> ?_
  replace H:=H.up l h
  replace h70:=h70.le l
  obtain ⟨_,rfl,hw⟩:=hr
  obtain ⟨m71,rfl,h71⟩:=hw.out
  refine ⟨_,rfl,?_⟩
  refine ⟨H.row,?_⟩
  refine ⟨H.row,?_⟩
  exact C0 H h71
end
theorem mb (F:PH):ae prog 107 #[] F fun r F'=>(∃w,r=.agg w/\GV F' w dq)/\F.le F':=by
 refine So ?_
 unfold LC
 refine gr F [⟨#[69]⟩] rfl rfl fun b0 b1 F1 h=> ?_
 refine h.allv fun b2 K1 F2 n l1 q hn h=> ?_
 refine h.rule3 (dW 0) (cJ 1) (dW 0) (by decide) fun F2 h=> ?_
 refine h.rule3 (dW 0) (cJ 2) (dW 0) (by decide) fun F2 h=> ?_
 refine h.rule3 (cJ 3) (dW 0) (cJ 4) (by decide) fun F2 h=> ?_
 refine h.rule1 (cJ 0) (by decide) fun F2 h=> ?_
 refine h.rule3 (dW 0) (cJ 8) (dW 0) (by decide) fun F2 h=> ?_
 refine h.brk 2 rfl fun F2 h=> ?_
 refine h.cnd 4 rfl 1 (by decide) fun F2 h=> ?_
 refine ⟨_,rfl,aj (h.le _ _ q),_,rfl,aj (h.le _ _ q),?_⟩
 have H:EK F _ _ b0 b1 b2 n:=⟨h,l1,q,hn⟩
 refine ⟨?_,?_,?_,?_⟩
 ·refine H.h.new fun b63 K F l q63 h=> ?_
  replace H:=H.up l h
  exact EY H q63
 ·refine H.h.new fun b66 K F l q66 h=> ?_
  replace H:=H.up l h
  exact CO H q66
 ·refine H.h.new fun b69 K F l q69 h=> ?_
  replace H:=H.up l h
  exact CV H q69
 ·refine H.h.run (fun G _=>aL 0 (by decide) G) fun _ K F hr l h=> ?_
  replace H:=H.up l h
  obtain ⟨_,rfl,hw⟩:=hr
  obtain ⟨m70,rfl,h70⟩:=hw.out
  refine ⟨_,rfl,?_⟩
  refine ⟨H.row,?_⟩
  refine ⟨H.row,?_⟩
  exact C1 H h70
noncomputable def cj (k:Nat):Gr:=if k=0 then dq else if k=1 then cM else if k=2 then eT else if k=3 then nI else if k=4 then kH else kI
theorem yk (k:Nat) (F:PH):ae prog 37 #[.int .u8 (k:Int)] F fun r F'=>(∃w,r=.agg w/\GV F' w (cj (k % 6)))/\F.le F':=by
 refine UQ ?_
 unfold R9
 refine (St.start F).new fun b F1 h=> ?_
 have e:Int.tmod (k:Int) 6=((k % 6:Nat):Int):=by rw [Int.tmod_eq_emod_of_nonneg (by omega)];omega
 rw [e]
 have hk:k % 6<6:=Nat.mod_lt _ (by decide)
 generalize k % 6=j at*
 have fin:∀{v:Value} {G F1:PH},F.le G->(∃w,v=Value.agg w/\GV G w (cj j))->St G F1 [pt b (.cells zG 39)]->∃w:Array Value,v=Value.agg w/\au F1 (Addr.mk b 0 none) 9 w fun F2=>∃w:Array Value,w.size=9/\F2.row (Addr.mk b 0 none) w/\((∃w',Value.agg w=Value.agg w'/\GV F2 w' (cj j))/\F.le F2):=fun {v G F1} hl hv h=>by
  obtain ⟨w,rfl,hv⟩:=hv
  exact ⟨w,rfl,h.put0 (w':=w) hv.size rfl hv.st fun F2 h=>⟨w,hv.size,h.whole0,⟨w,rfl,hv.le h.le⟩,aa hl h.le⟩⟩
 refine ⟨fun h0=> ?_,fun h0=>⟨fun h1=> ?_,fun h1=>⟨fun h2=> ?_,fun h2=>⟨fun h3=> ?_,fun h3=>⟨fun h4=> ?_,fun h4=> ?_⟩⟩⟩⟩⟩
 ·obtain rfl:j=0:=by omega
  exact h.run (mb _) fun _ G F2 hr l h=>fin l hr h
 ·obtain rfl:j=1:=by omega
  exact h.run (mX _) fun _ G F2 hr l h=>fin l hr h
 ·obtain rfl:j=2:=by omega
  exact h.run (kJ _) fun _ G F2 hr l h=>fin l hr h
 ·obtain rfl:j=3:=by omega
  exact h.run (wP _) fun _ G F2 hr l h=>fin l hr h
 ·obtain rfl:j=4:=by omega
  exact h.run (un _) fun _ G F2 hr l h=>fin l hr h
 ·obtain rfl:j=5:=by omega
  exact h.run (uq _) fun _ G F2 hr l h=>fin l hr h
end Go.Proofs.YtenpmjhnhepfdaaGreatDoor
