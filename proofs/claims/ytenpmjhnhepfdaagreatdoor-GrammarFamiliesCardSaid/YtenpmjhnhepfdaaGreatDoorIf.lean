/-
  Known grammars with levels and filters; all of them. Printed by a program (mkIf.py).
-/
import Derived.Test.YtenpmjhnhepfdaaGreatDoorIe
namespace Go.Proofs.YtenpmjhnhepfdaaGreatDoor
open Go Go.Proofs.Tryz Tr
set_option maxRecDepth 10000
theorem dq {F:PH} {b:Nat} {e:TypeId} {x:Int} (q:F b=some (.cells #[vi x] e)):RL F (Sl.mk (some (Addr.mk b 0 none)) 1 1) [x]:=RL.ints.2 (RdS.new q rfl rfl (Nat.le_refl _))
theorem lZ {F:PH} {x:Fi} {t n:Sl} (ht:RL F t x.toks) (hn:RL F n x.cond.1):Mem.rep F x (x.arr t n):=⟨t,n,rfl,ht,hn⟩
theorem dy {F:PH} {x:Lv} {p n:Sl} (hp:RL F p x.ps) (hn:RL F n x.cond.1):Mem.rep F x (x.arr p n):=⟨p,n,rfl,hp,hn⟩
theorem ru (F:PH):ae prog 111 #[] F fun r F'=>(∃w,r=.agg w∧GV F' w jB)∧F.le F':=by
 refine Ng ?_
 unfold GQ
 refine fG F [⟨#[83]⟩,⟨#[87]⟩,⟨#[86]⟩] rfl rfl fun b0 b1 F1 h=> ?_
 refine h.rule2 (dv 1) (dv 2) (by decide) fun F2 h=> ?_
 refine h.rule1 (cf 0) (by decide) fun F2 h=> ?_
 refine h.rule2 (cf 0) (cf 0) (by decide) fun F2 h=> ?_
 refine h.rule0 (by decide) fun F2 h=> ?_
 refine h.rule2 (cf 0) (dv 2) (by decide) fun F2 h=> ?_
 refine h.rule2 (cf 1) (dv 2) (by decide) fun F2 h=> ?_
 refine h.rank 1 rfl fun F2 h=> ?_
 refine h.cnd 5 rfl 1 (by decide) fun F2 h=> ?_
 refine h.new fun b64 K3 F3 l3 q64 h=> ?_
 refine h.run (fun G _=>aH 0 (by decide) G) fun _ K4 F4 hr l4 h=> ?_
 obtain ⟨_,rfl,hw⟩:=hr
 obtain ⟨m,rfl,hm⟩:=hw.out
 refine ⟨_,rfl,rfl,?_⟩
 refine h.new fun b67 K5 F5 l5 q67 h=> ?_
 refine h.run (fun G _=>aH 1 (by decide) G) fun _ K6 F6 hr l6 h=> ?_
 obtain ⟨_,rfl,hv⟩:=hr
 refine ⟨_,rfl,?_⟩
 refine h.run (fun G hl=>aZ (by decide) (hv.le hl)) fun _ K7 F7 hr l7 h=> ?_
 obtain ⟨_,rfl,hw⟩:=hr
 obtain ⟨m',rfl,hm'⟩:=hw.out
 refine ⟨_,rfl,rfl,rfl,rfl,?_⟩
 refine h.new fun b71 K8 F8 l8 q71 h=> ?_
 have l58:=aa l6 (aa l7 l8)
 have l48:=aa l5 l58
 refine h.fils (x:=[⟨3,0,0,0,1,0,[0],dia (tv 0)⟩,⟨4,0,0,0,2,0,[1],cH 1⟩]) ⟨[_,_],.cons (lZ (dq (l48 _ _ (l4 _ _ q64))) (hm.le l48)) (.cons (lZ (dq (l58 _ _ q67)) (hm'.le l8)) .nil),RdS.new q71 (by kernel_rfl) rfl (Nat.le_refl _)⟩ fun F9 h=> ?_
 exact h.fin (R:=fun r F'=>(∃w,r=.agg w∧GV F' w jB)∧F.le F') fun w F' hv hl=>⟨⟨w,rfl,hv⟩,aa l3 (aa l4 (aa l48 hl))⟩
noncomputable def rv:Gr:={(dz [⟨#[83]⟩,⟨#[67]⟩]) with prods:=cj.prods}
theorem wK {K F F0:PH} {b0 b1 b61 b64:Nat} {g:Gr} {c n t s sp l m v:Sl} {vs:List (Array Value)} (hF:F0.le K) (hg:{g with fils:=[⟨2,0,2,1,0,0,[],dia (tv 0)⟩,⟨5,0,0,0,0,0,[5,6],dia (tv 1)⟩]}=cj)
  (st:St K F [pt b64 (.cells (wr (wr (#[.int .i64 0,.int .i64 0,.int .i64 0,.int .i64 0,.int .i64 0,.int .i64 0,.slice none 0 0,.slice none 0 0,.int .i64 0,.int .i64 0,.int .i64 0,.int .i64 0,.int .i64 0,.int .i64 0,.int .i64 0,.slice none 0 0,.slice none 0 0,.int .i64 0]:Array Value) 0 (wr (Array.setIfInBounds (Array.setIfInBounds (Array.setIfInBounds (#[.int .i64 0,.int .i64 0,.int .i64 0,.int .i64 0,.int .i64 0,.int .i64 0,.slice none 0 0,.slice none 0 0,.int .i64 0]:Array Value) 0 (vi 2)) 2 (vi 2)) 3 (vi 1)) 7 (#[m.v,vi (dia (tv 0)).2]:Array Value).toList).toList) 9 (wr (Array.setIfInBounds (Array.setIfInBounds (#[.int .i64 0,.int .i64 0,.int .i64 0,.int .i64 0,.int .i64 0,.int .i64 0,.slice none 0 0,.slice none 0 0,.int .i64 0]:Array Value) 0 (vi 5)) 6 (Sl.v (Sl.mk (some (Addr.mk b61 0 none)) 2 2))) 7 (#[v.v,vi aG.2]:Array Value).toList).toList) 74),pt b1 (.cells (g.arr c n t s sp l (Sl.mk (some (Addr.mk b64 0 none)) 2 2)) 39),own sp 67 13 (cat vs),pt b0 (.cells zG 39)])
  (hr:dh K g.prods vs) (hc:RL K c g.conds) (hn:RL K n g.fam.1) (ht:RL K t g.toks) (hs:RL K s g.nons) (hl:RL K l g.lvs) (hm:RL K m (dia (tv 0)).1) (q61:RL K (Sl.mk (some (Addr.mk b61 0 none)) 2 2) [(5:Int),6]):
  mY b0 b1 (fun r F'=>(∃w,r=.agg w∧GV F' w cj)∧F0.le F') F:=by
 unfold mY
 refine ⟨_,st.ld1 rfl,?_⟩
 refine st.run (aH 1 (by decide) _) fun _ K1 F1 hr1 l1 st=> ?_
 obtain ⟨_,rfl,hw⟩:=hr1
 obtain ⟨m1,rfl,hm1⟩:=hw.out
 refine ⟨_,rfl,st.ld1 rfl,_,rfl,by decide,(by show (1:Int)<2;decide),?_⟩
 simp only [aL]
 refine st.putR0 (o:=16) (w':= #[vi 2,vi 0,vi 2,vi 1,vi 0,vi 0,Sl.v Sl.nil,m.v,vi (dia (tv 0)).2,vi 5,vi 0,vi 0,vi 0,vi 0,vi 0,Sl.v (Sl.mk (some (Addr.mk b61 0 none)) 2 2),m1.v,vi (dia (tv 1)).2]) rfl (by simp [ak,Sl.v]) (by rw [dn,dn];show 16+2≤18;decide) (by kernel_rfl) fun F2 st=> ?_
 obtain ⟨K2,l2,⟨H,hA,hH⟩,st⟩:=st.pin
 have q:=hH _ _ hA
 have l12:=aa l1 l2
 have hf:RL K2 (Sl.mk (some (Addr.mk b64 0 none)) 2 2) [(⟨2,0,2,1,0,0,[],dia (tv 0)⟩:Fi),⟨5,0,0,0,0,0,[5,6],dia (tv 1)⟩]:=
  ⟨[_,_],.cons (lZ (t:=Sl.nil) (.nil _) (hm.le l12)) (.cons (lZ (q61.le l12) (hm1.le l2)) .nil),RdS.new q (by kernel_rfl) rfl (Nat.le_refl _)⟩
 have h:KS K2 F2 b0 b1 cj:=by
  rw [← hg]
  exact ⟨K2,c,n,t,s,sp,l,_,vs,le_refl' _,st,hr.le l12,hc.le l12,hn.le l12,ht.le l12,hs.le l12,hl.le l12,hf⟩
 exact h.fin (R:=fun r F'=>(∃w,r=.agg w∧GV F' w cj)∧F0.le F') fun w F' hv hl=>⟨⟨w,rfl,hv⟩,aa hF (aa l12 hl)⟩
theorem lQ (F:PH):ae prog 108 #[] F fun r F'=>(∃w,r=.agg w∧GV F' w cj)∧F.le F':=by
 refine Na ?_
 unfold GN
 refine fG F [⟨#[83]⟩,⟨#[67]⟩] rfl rfl fun b0 b1 F1 h=> ?_
 refine h.allv fun b2 K1 F2 n l1 q hn h=> ?_
 refine h.rule5 (cf 5) (dv 1) (dv 0) (cf 6) (dv 0) (by decide) fun F2 h=> ?_
 refine h.rule3 (cf 5) (dv 1) (dv 0) (by decide) fun F2 h=> ?_
 refine h.rule2 (dv 1) (cf 7) (by decide) fun F2 h=> ?_
 refine h.rule3 (cf 3) (dv 0) (cf 4) (by decide) fun F2 h=> ?_
 refine h.rule1 (cf 0) (by decide) fun F2 h=> ?_
 refine h.brk 3 rfl fun F2 h=> ?_
 refine ⟨_,rfl,aj (h.le _ _ q),?_⟩
 obtain ⟨G,c,n',t,s,sp,l,f,vs,h⟩:=h
 have hn:=hn.le h.k
 have l1:=aa l1 h.k
 refine ⟨?_,?_⟩
 ·refine h.st.run (aH 0 (by decide) _) fun _ K4 F4 hr l4 st=> ?_
  obtain ⟨_,rfl,hw⟩:=hr
  obtain ⟨m,rfl,hm⟩:=hw.out
  refine ⟨_,rfl,aj (st.le _ _ (l4 _ _ (h.k _ _ q))),rfl,?_⟩
  refine st.newG fun b61 K5 F5 l5 q61 _ st=> ?_
  refine ⟨rfl,rfl,rfl,?_⟩
  refine st.new fun b64 F6 st=> ?_
  refine st.set1 (w':=(rv.arr c n' t s sp l (Sl.mk (some (Addr.mk b64 0 none)) 2 2))) (by show 8<9;decide) rfl fun F7 st=> ?_
  have l45:=aa l4 l5
  exact wK (g:=rv) (aa l1 l45) rfl st (h.r.le l45) (h.c.le l45) (h.n.le l45) (h.t.le l45) (h.s.le l45) (h.l.le l45) (hm.le l5) (RL.ints.2 (RdS.new q61 rfl rfl (Nat.le_refl _)))
 ·refine h.st.newG fun b61 K5 F5 l5 q61 _ st=> ?_
  refine ⟨rfl,?_⟩
  refine st.run (aH 0 (by decide) _) fun _ K4 F4 hr l4 st=> ?_
  obtain ⟨_,rfl,hw⟩:=hr
  obtain ⟨m,rfl,hm⟩:=hw.out
  refine ⟨_,rfl,aj (st.le _ _ (l4 _ _ (l5 _ _ (h.k _ _ q)))),rfl,rfl,rfl,?_⟩
  refine st.new fun b64 F6 st=> ?_
  refine st.set1 (w':=(rv.arr c n' t s sp l (Sl.mk (some (Addr.mk b64 0 none)) 2 2))) (by show 8<9;decide) rfl fun F7 st=> ?_
  have l45:=aa l5 l4
  exact wK (g:=rv) (aa l1 l45) rfl st (h.r.le l45) (h.c.le l45) (h.n.le l45) (h.t.le l45) (h.s.le l45) (h.l.le l45) hm ((RL.ints.2 (RdS.new q61 rfl rfl (Nat.le_refl _))).le l4)
noncomputable def Ez:Gr:={cP with lvs:=[]}
structure EK (K0 K F:PH) (b0 b1 b2:Nat) (n:Sl):Prop where
 h:KS K F b0 b1 Ez
 l:K0.le K
 q:K b2=some (.cells #[Sl.v n,vi aG.2] 33)
 n:RL K n aG.1
theorem EK.up {K0 K F K' F':PH} {b0 b1 b2:Nat} {n:Sl} (H:EK K0 K F b0 b1 b2 n) (l:K.le K') (h:KS K' F' b0 b1 Ez):EK K0 K' F' b0 b1 b2 n:=⟨h,aa H.l l,l _ _ H.q,H.n.le l⟩
theorem EK.row {K0 K F:PH} {b0 b1 b2:Nat} {n:Sl} (H:EK K0 K F b0 b1 b2 n):F.row (Addr.mk b2 0 none) #[Sl.v n,vi aG.2]:=aj (H.h.le _ _ H.q)
section
variable {K0 K F:PH} {b0 b1 b2:Nat} {n:Sl}
abbrev bQ (K0:PH):VR:=fun r F'=>(∃w,r=.agg w∧GV F' w cP)∧K0.le F'
theorem Hl (H:EK K0 K F b0 b1 b2 n) {b73:Nat} (hr:RL K (Sl.mk (some (Addr.mk b73 0 none)) 3 3) cP.lvs):kf b1 b73 b0 (bQ K0) F:=by
 unfold kf
 refine H.h.lvs hr fun F9 h=> ?_
 unfold ym
 exact h.fin (R:=bQ K0) fun w F' hv hl=>⟨⟨w,rfl,hv⟩,aa H.l hl⟩
theorem fD (H:EK K0 K F b0 b1 b2 n) {m71:Sl} (h71:RL K m71 (cH 0).1) {b63:Nat} (q63:K b63=some (.cells #[vi 4] 3)) {b66:Nat} (q66:K b66=some (.cells #[vi 1] 3)) {b69:Nat} (q69:K b69=some (.cells #[vi 0] 3)):fc #[Sl.v m71,vi (cH 0).2] b63 #[Sl.v n,vi aG.2] b66 #[Sl.v n,vi aG.2] b69 b1 b0 (bQ K0) F:=by
 unfold fc
 refine ⟨rfl,?_⟩
 refine ⟨rfl,?_⟩
 refine ⟨rfl,?_⟩
 refine ⟨rfl,?_⟩
 refine H.h.new fun b73 K F l q73 h=> ?_
 replace H:=H.up l h
 replace h71:=h71.le l
 replace q63:=l _ _ q63
 replace q66:=l _ _ q66
 replace q69:=l _ _ q69
 exact Hl H ⟨[_,_,_],.cons (dy (dq q63) H.n) (.cons (dy (dq q66) H.n) (.cons (dy (dq q69) h71) .nil)),RdS.new q73 (by kernel_rfl) rfl (Nat.le_refl _)⟩
theorem fE (H:EK K0 K F b0 b1 b2 n) {m70:Sl} (h70:RL K m70 (dia (tv 0)).1) {b63:Nat} (q63:K b63=some (.cells #[vi 4] 3)) {b66:Nat} (q66:K b66=some (.cells #[vi 1] 3)) {b69:Nat} (q69:K b69=some (.cells #[vi 0] 3)):fd #[Sl.v m70,vi (dia (tv 0)).2] b2 #[Sl.v n,vi aG.2] #[Sl.v n,vi aG.2] b63 b66 b69 b1 b0 (bQ K0) F:=by
 unfold fd
 refine H.h.run (fun G hl=>aZ (x:=0) (by decide) ((DV.mk h70).le hl)) fun _ K F hr l h=> ?_
 replace H:=H.up l h
 replace h70:=h70.le l
 replace q63:=l _ _ q63
 replace q66:=l _ _ q66
 replace q69:=l _ _ q69
 obtain ⟨_,rfl,hw⟩:=hr
 obtain ⟨m71,rfl,h71⟩:=hw.out
 refine ⟨_,rfl,?_⟩
 refine ⟨H.row,?_⟩
 refine ⟨H.row,?_⟩
 exact fD H h71 q63 q66 q69
theorem tI (H:EK K0 K F b0 b1 b2 n) {b63:Nat} (q63:K b63=some (.cells #[vi 4] 3)) {b66:Nat} (q66:K b66=some (.cells #[vi 1] 3)) {b69:Nat} (q69:K b69=some (.cells #[vi 0] 3)):mW b2 #[Sl.v n,vi aG.2] #[Sl.v n,vi aG.2] b63 b66 b69 b1 b0 (bQ K0) F:=by
 unfold mW
 refine H.h.run (fun G _=>aH 0 (by decide) G) fun _ K F hr l h=> ?_
 replace H:=H.up l h
 replace q63:=l _ _ q63
 replace q66:=l _ _ q66
 replace q69:=l _ _ q69
 obtain ⟨_,rfl,hw⟩:=hr
 obtain ⟨m70,rfl,h70⟩:=hw.out
 refine ⟨_,rfl,?_⟩
 refine ⟨H.row,?_⟩
 refine ⟨H.row,?_⟩
 exact fE H h70 q63 q66 q69
theorem nI (H:EK K0 K F b0 b1 b2 n) {m71:Sl} (h71:RL K m71 (cH 0).1) {b63:Nat} (q63:K b63=some (.cells #[vi 4] 3)) {b66:Nat} (q66:K b66=some (.cells #[vi 1] 3)):kg #[Sl.v m71,vi (cH 0).2] b63 #[Sl.v n,vi aG.2] b66 #[Sl.v n,vi aG.2] b1 b0 (bQ K0) F:=by
 unfold kg
 refine H.h.new fun b69 K F l q69 h=> ?_
 replace H:=H.up l h
 replace h71:=h71.le l
 replace q63:=l _ _ q63
 replace q66:=l _ _ q66
 exact fD H h71 q63 q66 q69
theorem tJ (H:EK K0 K F b0 b1 b2 n) {m70:Sl} (h70:RL K m70 (dia (tv 0)).1) {b63:Nat} (q63:K b63=some (.cells #[vi 4] 3)) {b66:Nat} (q66:K b66=some (.cells #[vi 1] 3)):mX #[Sl.v m70,vi (dia (tv 0)).2] b2 #[Sl.v n,vi aG.2] #[Sl.v n,vi aG.2] b63 b66 b1 b0 (bQ K0) F:=by
 unfold mX
 refine ⟨?_,?_⟩
 ·refine H.h.new fun b69 K F l q69 h=> ?_
  replace H:=H.up l h
  replace h70:=h70.le l
  replace q63:=l _ _ q63
  replace q66:=l _ _ q66
  exact fE H h70 q63 q66 q69
 ·refine H.h.run (fun G hl=>aZ (x:=0) (by decide) ((DV.mk h70).le hl)) fun _ K F hr l h=> ?_
  replace H:=H.up l h
  replace h70:=h70.le l
  replace q63:=l _ _ q63
  replace q66:=l _ _ q66
  obtain ⟨_,rfl,hw⟩:=hr
  obtain ⟨m71,rfl,h71⟩:=hw.out
  refine ⟨_,rfl,?_⟩
  refine ⟨H.row,?_⟩
  refine ⟨H.row,?_⟩
  exact nI H h71 q63 q66
theorem At (H:EK K0 K F b0 b1 b2 n) {b63:Nat} (q63:K b63=some (.cells #[vi 4] 3)) {b66:Nat} (q66:K b66=some (.cells #[vi 1] 3)):sQ #[Sl.v n,vi aG.2] b2 #[Sl.v n,vi aG.2] b63 b66 b1 b0 (bQ K0) F:=by
 unfold sQ
 refine ⟨rfl,?_⟩
 refine ⟨?_,?_⟩
 ·refine H.h.new fun b69 K F l q69 h=> ?_
  replace H:=H.up l h
  replace q63:=l _ _ q63
  replace q66:=l _ _ q66
  exact tI H q63 q66 q69
 ·refine H.h.run (fun G _=>aH 0 (by decide) G) fun _ K F hr l h=> ?_
  replace H:=H.up l h
  replace q63:=l _ _ q63
  replace q66:=l _ _ q66
  obtain ⟨_,rfl,hw⟩:=hr
  obtain ⟨m70,rfl,h70⟩:=hw.out
  refine ⟨_,rfl,?_⟩
  refine ⟨H.row,?_⟩
  refine ⟨H.row,?_⟩
  exact tJ H h70 q63 q66
theorem pY (H:EK K0 K F b0 b1 b2 n) {b63:Nat} (q63:K b63=some (.cells #[vi 4] 3)) {b66:Nat} (q66:K b66=some (.cells #[vi 1] 3)) {b69:Nat} (q69:K b69=some (.cells #[vi 0] 3)):ki #[Sl.v n,vi aG.2] b2 #[Sl.v n,vi aG.2] b63 b66 b69 b1 b0 (bQ K0) F:=by
 unfold ki
 refine ⟨rfl,?_⟩
 refine H.h.run (fun G _=>aH 0 (by decide) G) fun _ K F hr l h=> ?_
 replace H:=H.up l h
 replace q63:=l _ _ q63
 replace q66:=l _ _ q66
 replace q69:=l _ _ q69
 obtain ⟨_,rfl,hw⟩:=hr
 obtain ⟨m70,rfl,h70⟩:=hw.out
 refine ⟨_,rfl,?_⟩
 refine ⟨H.row,?_⟩
 refine ⟨H.row,?_⟩
 exact fE H h70 q63 q66 q69
theorem pZ (H:EK K0 K F b0 b1 b2 n) {m70:Sl} (h70:RL K m70 (dia (tv 0)).1) {b63:Nat} (q63:K b63=some (.cells #[vi 4] 3)) {b66:Nat} (q66:K b66=some (.cells #[vi 1] 3)) {b69:Nat} (q69:K b69=some (.cells #[vi 0] 3)):kj #[Sl.v n,vi aG.2] #[Sl.v m70,vi (dia (tv 0)).2] b2 #[Sl.v n,vi aG.2] b63 b66 b69 b1 b0 (bQ K0) F:=by
 unfold kj
 refine ⟨rfl,?_⟩
 refine H.h.run (fun G hl=>aZ (x:=0) (by decide) ((DV.mk h70).le hl)) fun _ K F hr l h=> ?_
 replace H:=H.up l h
 replace h70:=h70.le l
 replace q63:=l _ _ q63
 replace q66:=l _ _ q66
 replace q69:=l _ _ q69
 obtain ⟨_,rfl,hw⟩:=hr
 obtain ⟨m71,rfl,h71⟩:=hw.out
 refine ⟨_,rfl,?_⟩
 refine ⟨H.row,?_⟩
 refine ⟨H.row,?_⟩
 exact fD H h71 q63 q66 q69
theorem p9 (H:EK K0 K F b0 b1 b2 n) {b63:Nat} (q63:K b63=some (.cells #[vi 4] 3)) {b66:Nat} (q66:K b66=some (.cells #[vi 1] 3)) {b69:Nat} (q69:K b69=some (.cells #[vi 0] 3)) {m71:Sl} (h71:RL K m71 (cH 0).1):km #[Sl.v n,vi aG.2] b63 #[Sl.v n,vi aG.2] b66 b69 #[Sl.v m71,vi (cH 0).2] b1 b0 (bQ K0) F:=by
 unfold km
 refine ⟨rfl,?_⟩
 refine ⟨rfl,?_⟩
 refine ⟨rfl,?_⟩
 refine ⟨rfl,?_⟩
 refine H.h.new fun b73 K F l q73 h=> ?_
 replace H:=H.up l h
 replace q63:=l _ _ q63
 replace q66:=l _ _ q66
 replace q69:=l _ _ q69
 replace h71:=h71.le l
 exact Hl H ⟨[_,_,_],.cons (dy (dq q63) H.n) (.cons (dy (dq q66) H.n) (.cons (dy (dq q69) h71) .nil)),RdS.new q73 (by kernel_rfl) rfl (Nat.le_refl _)⟩
theorem iw (H:EK K0 K F b0 b1 b2 n) {m71:Sl} (h71:RL K m71 (cH 0).1) {b63:Nat} (q63:K b63=some (.cells #[vi 4] 3)) {b69:Nat} (q69:K b69=some (.cells #[vi 0] 3)):fU #[Sl.v m71,vi (cH 0).2] #[Sl.v n,vi aG.2] b63 #[Sl.v n,vi aG.2] b69 b1 b0 (bQ K0) F:=by
 unfold fU
 refine ⟨rfl,?_⟩
 refine H.h.new fun b66 K F l q66 h=> ?_
 replace H:=H.up l h
 replace h71:=h71.le l
 replace q63:=l _ _ q63
 replace q69:=l _ _ q69
 exact p9 H q63 q66 q69 h71
theorem iz (H:EK K0 K F b0 b1 b2 n) {m70:Sl} (h70:RL K m70 (dia (tv 0)).1) {b63:Nat} (q63:K b63=some (.cells #[vi 4] 3)) {b69:Nat} (q69:K b69=some (.cells #[vi 0] 3)):fV #[Sl.v n,vi aG.2] #[Sl.v m70,vi (dia (tv 0)).2] b2 #[Sl.v n,vi aG.2] b63 b69 b1 b0 (bQ K0) F:=by
 unfold fV
 refine ⟨?_,?_⟩
 ·refine H.h.new fun b66 K F l q66 h=> ?_
  replace H:=H.up l h
  replace h70:=h70.le l
  replace q63:=l _ _ q63
  replace q69:=l _ _ q69
  exact pZ H h70 q63 q66 q69
 ·refine H.h.run (fun G hl=>aZ (x:=0) (by decide) ((DV.mk h70).le hl)) fun _ K F hr l h=> ?_
  replace H:=H.up l h
  replace h70:=h70.le l
  replace q63:=l _ _ q63
  replace q69:=l _ _ q69
  obtain ⟨_,rfl,hw⟩:=hr
  obtain ⟨m71,rfl,h71⟩:=hw.out
  refine ⟨_,rfl,?_⟩
  refine ⟨H.row,?_⟩
  refine ⟨H.row,?_⟩
  exact iw H h71 q63 q69
theorem yK (H:EK K0 K F b0 b1 b2 n) {b63:Nat} (q63:K b63=some (.cells #[vi 4] 3)) {b69:Nat} (q69:K b69=some (.cells #[vi 0] 3)):pj #[Sl.v n,vi aG.2] b2 #[Sl.v n,vi aG.2] b63 b69 b1 b0 (bQ K0) F:=by
 unfold pj
 refine ⟨?_,?_⟩
 ·refine H.h.new fun b66 K F l q66 h=> ?_
  replace H:=H.up l h
  replace q63:=l _ _ q63
  replace q69:=l _ _ q69
  exact pY H q63 q66 q69
 ·refine H.h.run (fun G _=>aH 0 (by decide) G) fun _ K F hr l h=> ?_
  replace H:=H.up l h
  replace q63:=l _ _ q63
  replace q69:=l _ _ q69
  obtain ⟨_,rfl,hw⟩:=hr
  obtain ⟨m70,rfl,h70⟩:=hw.out
  refine ⟨_,rfl,?_⟩
  refine ⟨H.row,?_⟩
  refine ⟨H.row,?_⟩
  exact iz H h70 q63 q69
theorem qa (H:EK K0 K F b0 b1 b2 n) {m70:Sl} (h70:RL K m70 (dia (tv 0)).1) {b63:Nat} (q63:K b63=some (.cells #[vi 4] 3)) {b66:Nat} (q66:K b66=some (.cells #[vi 1] 3)):ko #[Sl.v n,vi aG.2] #[Sl.v m70,vi (dia (tv 0)).2] b2 #[Sl.v n,vi aG.2] b63 b66 b1 b0 (bQ K0) F:=by
 unfold ko
 refine ⟨rfl,?_⟩
 refine ⟨?_,?_⟩
 ·refine H.h.new fun b69 K F l q69 h=> ?_
  replace H:=H.up l h
  replace h70:=h70.le l
  replace q63:=l _ _ q63
  replace q66:=l _ _ q66
  exact fE H h70 q63 q66 q69
 ·refine H.h.run (fun G hl=>aZ (x:=0) (by decide) ((DV.mk h70).le hl)) fun _ K F hr l h=> ?_
  replace H:=H.up l h
  replace h70:=h70.le l
  replace q63:=l _ _ q63
  replace q66:=l _ _ q66
  obtain ⟨_,rfl,hw⟩:=hr
  obtain ⟨m71,rfl,h71⟩:=hw.out
  refine ⟨_,rfl,?_⟩
  refine ⟨H.row,?_⟩
  refine ⟨H.row,?_⟩
  exact nI H h71 q63 q66
theorem qe (H:EK K0 K F b0 b1 b2 n) {m71:Sl} (h71:RL K m71 (cH 0).1) {b63:Nat} (q63:K b63=some (.cells #[vi 4] 3)) {b66:Nat} (q66:K b66=some (.cells #[vi 1] 3)):kp #[Sl.v n,vi aG.2] #[Sl.v m71,vi (cH 0).2] b63 #[Sl.v n,vi aG.2] b66 b1 b0 (bQ K0) F:=by
 unfold kp
 refine ⟨rfl,?_⟩
 refine H.h.new fun b69 K F l q69 h=> ?_
 replace H:=H.up l h
 replace h71:=h71.le l
 replace q63:=l _ _ q63
 replace q66:=l _ _ q66
 exact fD H h71 q63 q66 q69
theorem qh (H:EK K0 K F b0 b1 b2 n) {m71:Sl} (h71:RL K m71 (cH 0).1) {b63:Nat} (q63:K b63=some (.cells #[vi 4] 3)):kq #[Sl.v n,vi aG.2] #[Sl.v m71,vi (cH 0).2] b63 #[Sl.v n,vi aG.2] b1 b0 (bQ K0) F:=by
 unfold kq
 refine ⟨?_,?_⟩
 ·refine H.h.new fun b66 K F l q66 h=> ?_
  replace H:=H.up l h
  replace h71:=h71.le l
  replace q63:=l _ _ q63
  exact qe H h71 q63 q66
 ·refine H.h.new fun b69 K F l q69 h=> ?_
  replace H:=H.up l h
  replace h71:=h71.le l
  replace q63:=l _ _ q63
  exact iw H h71 q63 q69
theorem yL (H:EK K0 K F b0 b1 b2 n) {m70:Sl} (h70:RL K m70 (dia (tv 0)).1) {b63:Nat} (q63:K b63=some (.cells #[vi 4] 3)):pk #[Sl.v n,vi aG.2] #[Sl.v m70,vi (dia (tv 0)).2] b2 #[Sl.v n,vi aG.2] b63 b1 b0 (bQ K0) F:=by
 unfold pk
 refine ⟨?_,?_,?_⟩
 ·refine H.h.new fun b66 K F l q66 h=> ?_
  replace H:=H.up l h
  replace h70:=h70.le l
  replace q63:=l _ _ q63
  exact qa H h70 q63 q66
 ·refine H.h.new fun b69 K F l q69 h=> ?_
  replace H:=H.up l h
  replace h70:=h70.le l
  replace q63:=l _ _ q63
  exact iz H h70 q63 q69
 ·refine H.h.run (fun G hl=>aZ (x:=0) (by decide) ((DV.mk h70).le hl)) fun _ K F hr l h=> ?_
  replace H:=H.up l h
  replace h70:=h70.le l
  replace q63:=l _ _ q63
  obtain ⟨_,rfl,hw⟩:=hr
  obtain ⟨m71,rfl,h71⟩:=hw.out
  refine ⟨_,rfl,?_⟩
  refine ⟨H.row,?_⟩
  refine ⟨H.row,?_⟩
  exact qh H h71 q63
theorem Au (H:EK K0 K F b0 b1 b2 n) {b63:Nat} (q63:K b63=some (.cells #[vi 4] 3)):sR #[Sl.v n,vi aG.2] #[Sl.v n,vi aG.2] b2 b63 b1 b0 (bQ K0) F:=by
 unfold sR
 refine ⟨rfl,?_⟩
 refine ⟨?_,?_,?_⟩
 ·refine H.h.new fun b66 K F l q66 h=> ?_
  replace H:=H.up l h
  replace q63:=l _ _ q63
  exact At H q63 q66
 ·refine H.h.new fun b69 K F l q69 h=> ?_
  replace H:=H.up l h
  replace q63:=l _ _ q63
  exact yK H q63 q69
 ·refine H.h.run (fun G _=>aH 0 (by decide) G) fun _ K F hr l h=> ?_
  replace H:=H.up l h
  replace q63:=l _ _ q63
  obtain ⟨_,rfl,hw⟩:=hr
  obtain ⟨m70,rfl,h70⟩:=hw.out
  refine ⟨_,rfl,?_⟩
  refine ⟨H.row,?_⟩
  refine ⟨H.row,?_⟩
  exact yL H h70 q63
theorem yM (H:EK K0 K F b0 b1 b2 n) {b63:Nat} (q63:K b63=some (.cells #[vi 4] 3)) {b66:Nat} (q66:K b66=some (.cells #[vi 1] 3)):pm #[Sl.v n,vi aG.2] b2 #[Sl.v n,vi aG.2] b63 b66 b1 b0 (bQ K0) F:=by
 unfold pm
 refine ⟨rfl,?_⟩
 refine ⟨?_,?_⟩
 ·refine H.h.new fun b69 K F l q69 h=> ?_
  replace H:=H.up l h
  replace q63:=l _ _ q63
  replace q66:=l _ _ q66
  exact tI H q63 q66 q69
 ·refine H.h.run (fun G _=>aH 0 (by decide) G) fun _ K F hr l h=> ?_
  replace H:=H.up l h
  replace q63:=l _ _ q63
  replace q66:=l _ _ q66
  obtain ⟨_,rfl,hw⟩:=hr
  obtain ⟨m70,rfl,h70⟩:=hw.out
  refine ⟨_,rfl,?_⟩
  refine ⟨H.row,?_⟩
  refine ⟨H.row,?_⟩
  exact tJ H h70 q63 q66
theorem qi (H:EK K0 K F b0 b1 b2 n) {b63:Nat} (q63:K b63=some (.cells #[vi 4] 3)) {b66:Nat} (q66:K b66=some (.cells #[vi 1] 3)) {b69:Nat} (q69:K b69=some (.cells #[vi 0] 3)):ks #[Sl.v n,vi aG.2] b2 #[Sl.v n,vi aG.2] b63 b66 b69 b1 b0 (bQ K0) F:=by
 unfold ks
 refine ⟨rfl,?_⟩
 refine H.h.run (fun G _=>aH 0 (by decide) G) fun _ K F hr l h=> ?_
 replace H:=H.up l h
 replace q63:=l _ _ q63
 replace q66:=l _ _ q66
 replace q69:=l _ _ q69
 obtain ⟨_,rfl,hw⟩:=hr
 obtain ⟨m70,rfl,h70⟩:=hw.out
 refine ⟨_,rfl,?_⟩
 refine ⟨H.row,?_⟩
 refine ⟨H.row,?_⟩
 exact fE H h70 q63 q66 q69
theorem qj (H:EK K0 K F b0 b1 b2 n) {m70:Sl} (h70:RL K m70 (dia (tv 0)).1) {b63:Nat} (q63:K b63=some (.cells #[vi 4] 3)) {b66:Nat} (q66:K b66=some (.cells #[vi 1] 3)) {b69:Nat} (q69:K b69=some (.cells #[vi 0] 3)):ku #[Sl.v n,vi aG.2] #[Sl.v m70,vi (dia (tv 0)).2] b2 #[Sl.v n,vi aG.2] b63 b66 b69 b1 b0 (bQ K0) F:=by
 unfold ku
 refine ⟨rfl,?_⟩
 refine H.h.run (fun G hl=>aZ (x:=0) (by decide) ((DV.mk h70).le hl)) fun _ K F hr l h=> ?_
 replace H:=H.up l h
 replace h70:=h70.le l
 replace q63:=l _ _ q63
 replace q66:=l _ _ q66
 replace q69:=l _ _ q69
 obtain ⟨_,rfl,hw⟩:=hr
 obtain ⟨m71,rfl,h71⟩:=hw.out
 refine ⟨_,rfl,?_⟩
 refine ⟨H.row,?_⟩
 refine ⟨H.row,?_⟩
 exact fD H h71 q63 q66 q69
theorem qk (H:EK K0 K F b0 b1 b2 n) {b63:Nat} (q63:K b63=some (.cells #[vi 4] 3)) {b66:Nat} (q66:K b66=some (.cells #[vi 1] 3)) {b69:Nat} (q69:K b69=some (.cells #[vi 0] 3)) {m71:Sl} (h71:RL K m71 (cH 0).1):kv #[Sl.v n,vi aG.2] b63 b66 #[Sl.v n,vi aG.2] b69 #[Sl.v m71,vi (cH 0).2] b1 b0 (bQ K0) F:=by
 unfold kv
 refine ⟨rfl,?_⟩
 refine ⟨rfl,?_⟩
 refine ⟨rfl,?_⟩
 refine ⟨rfl,?_⟩
 refine H.h.new fun b73 K F l q73 h=> ?_
 replace H:=H.up l h
 replace q63:=l _ _ q63
 replace q66:=l _ _ q66
 replace q69:=l _ _ q69
 replace h71:=h71.le l
 exact Hl H ⟨[_,_,_],.cons (dy (dq q63) H.n) (.cons (dy (dq q66) H.n) (.cons (dy (dq q69) h71) .nil)),RdS.new q73 (by kernel_rfl) rfl (Nat.le_refl _)⟩
theorem iA (H:EK K0 K F b0 b1 b2 n) {m71:Sl} (h71:RL K m71 (cH 0).1) {b66:Nat} (q66:K b66=some (.cells #[vi 1] 3)) {b69:Nat} (q69:K b69=some (.cells #[vi 0] 3)):fW #[Sl.v m71,vi (cH 0).2] #[Sl.v n,vi aG.2] b66 #[Sl.v n,vi aG.2] b69 b1 b0 (bQ K0) F:=by
 unfold fW
 refine ⟨rfl,?_⟩
 refine H.h.new fun b63 K F l q63 h=> ?_
 replace H:=H.up l h
 replace h71:=h71.le l
 replace q66:=l _ _ q66
 replace q69:=l _ _ q69
 exact qk H q63 q66 q69 h71
theorem iB (H:EK K0 K F b0 b1 b2 n) {m70:Sl} (h70:RL K m70 (dia (tv 0)).1) {b66:Nat} (q66:K b66=some (.cells #[vi 1] 3)) {b69:Nat} (q69:K b69=some (.cells #[vi 0] 3)):fX #[Sl.v n,vi aG.2] #[Sl.v m70,vi (dia (tv 0)).2] b2 #[Sl.v n,vi aG.2] b66 b69 b1 b0 (bQ K0) F:=by
 unfold fX
 refine ⟨?_,?_⟩
 ·refine H.h.new fun b63 K F l q63 h=> ?_
  replace H:=H.up l h
  replace h70:=h70.le l
  replace q66:=l _ _ q66
  replace q69:=l _ _ q69
  exact qj H h70 q63 q66 q69
 ·refine H.h.run (fun G hl=>aZ (x:=0) (by decide) ((DV.mk h70).le hl)) fun _ K F hr l h=> ?_
  replace H:=H.up l h
  replace h70:=h70.le l
  replace q66:=l _ _ q66
  replace q69:=l _ _ q69
  obtain ⟨_,rfl,hw⟩:=hr
  obtain ⟨m71,rfl,h71⟩:=hw.out
  refine ⟨_,rfl,?_⟩
  refine ⟨H.row,?_⟩
  refine ⟨H.row,?_⟩
  exact iA H h71 q66 q69
theorem yN (H:EK K0 K F b0 b1 b2 n) {b66:Nat} (q66:K b66=some (.cells #[vi 1] 3)) {b69:Nat} (q69:K b69=some (.cells #[vi 0] 3)):pn #[Sl.v n,vi aG.2] b2 #[Sl.v n,vi aG.2] b66 b69 b1 b0 (bQ K0) F:=by
 unfold pn
 refine ⟨?_,?_⟩
 ·refine H.h.new fun b63 K F l q63 h=> ?_
  replace H:=H.up l h
  replace q66:=l _ _ q66
  replace q69:=l _ _ q69
  exact qi H q63 q66 q69
 ·refine H.h.run (fun G _=>aH 0 (by decide) G) fun _ K F hr l h=> ?_
  replace H:=H.up l h
  replace q66:=l _ _ q66
  replace q69:=l _ _ q69
  obtain ⟨_,rfl,hw⟩:=hr
  obtain ⟨m70,rfl,h70⟩:=hw.out
  refine ⟨_,rfl,?_⟩
  refine ⟨H.row,?_⟩
  refine ⟨H.row,?_⟩
  exact iB H h70 q66 q69
theorem ql (H:EK K0 K F b0 b1 b2 n) {m70:Sl} (h70:RL K m70 (dia (tv 0)).1) {b63:Nat} (q63:K b63=some (.cells #[vi 4] 3)) {b66:Nat} (q66:K b66=some (.cells #[vi 1] 3)):ky #[Sl.v n,vi aG.2] #[Sl.v m70,vi (dia (tv 0)).2] b2 #[Sl.v n,vi aG.2] b63 b66 b1 b0 (bQ K0) F:=by
 unfold ky
 refine ⟨rfl,?_⟩
 refine ⟨?_,?_⟩
 ·refine H.h.new fun b69 K F l q69 h=> ?_
  replace H:=H.up l h
  replace h70:=h70.le l
  replace q63:=l _ _ q63
  replace q66:=l _ _ q66
  exact fE H h70 q63 q66 q69
 ·refine H.h.run (fun G hl=>aZ (x:=0) (by decide) ((DV.mk h70).le hl)) fun _ K F hr l h=> ?_
  replace H:=H.up l h
  replace h70:=h70.le l
  replace q63:=l _ _ q63
  replace q66:=l _ _ q66
  obtain ⟨_,rfl,hw⟩:=hr
  obtain ⟨m71,rfl,h71⟩:=hw.out
  refine ⟨_,rfl,?_⟩
  refine ⟨H.row,?_⟩
  refine ⟨H.row,?_⟩
  exact nI H h71 q63 q66
theorem qn (H:EK K0 K F b0 b1 b2 n) {m71:Sl} (h71:RL K m71 (cH 0).1) {b63:Nat} (q63:K b63=some (.cells #[vi 4] 3)) {b66:Nat} (q66:K b66=some (.cells #[vi 1] 3)):kz #[Sl.v n,vi aG.2] #[Sl.v m71,vi (cH 0).2] b63 b66 #[Sl.v n,vi aG.2] b1 b0 (bQ K0) F:=by
 unfold kz
 refine ⟨rfl,?_⟩
 refine H.h.new fun b69 K F l q69 h=> ?_
 replace H:=H.up l h
 replace h71:=h71.le l
 replace q63:=l _ _ q63
 replace q66:=l _ _ q66
 exact fD H h71 q63 q66 q69
theorem qo (H:EK K0 K F b0 b1 b2 n) {m71:Sl} (h71:RL K m71 (cH 0).1) {b66:Nat} (q66:K b66=some (.cells #[vi 1] 3)):kA #[Sl.v n,vi aG.2] #[Sl.v m71,vi (cH 0).2] b66 #[Sl.v n,vi aG.2] b1 b0 (bQ K0) F:=by
 unfold kA
 refine ⟨?_,?_⟩
 ·refine H.h.new fun b63 K F l q63 h=> ?_
  replace H:=H.up l h
  replace h71:=h71.le l
  replace q66:=l _ _ q66
  exact qn H h71 q63 q66
 ·refine H.h.new fun b69 K F l q69 h=> ?_
  replace H:=H.up l h
  replace h71:=h71.le l
  replace q66:=l _ _ q66
  exact iA H h71 q66 q69
theorem yO (H:EK K0 K F b0 b1 b2 n) {m70:Sl} (h70:RL K m70 (dia (tv 0)).1) {b66:Nat} (q66:K b66=some (.cells #[vi 1] 3)):po #[Sl.v n,vi aG.2] #[Sl.v m70,vi (dia (tv 0)).2] b2 #[Sl.v n,vi aG.2] b66 b1 b0 (bQ K0) F:=by
 unfold po
 refine ⟨?_,?_,?_⟩
 ·refine H.h.new fun b63 K F l q63 h=> ?_
  replace H:=H.up l h
  replace h70:=h70.le l
  replace q66:=l _ _ q66
  exact ql H h70 q63 q66
 ·refine H.h.new fun b69 K F l q69 h=> ?_
  replace H:=H.up l h
  replace h70:=h70.le l
  replace q66:=l _ _ q66
  exact iB H h70 q66 q69
 ·refine H.h.run (fun G hl=>aZ (x:=0) (by decide) ((DV.mk h70).le hl)) fun _ K F hr l h=> ?_
  replace H:=H.up l h
  replace h70:=h70.le l
  replace q66:=l _ _ q66
  obtain ⟨_,rfl,hw⟩:=hr
  obtain ⟨m71,rfl,h71⟩:=hw.out
  refine ⟨_,rfl,?_⟩
  refine ⟨H.row,?_⟩
  refine ⟨H.row,?_⟩
  exact qo H h71 q66
theorem yP (H:EK K0 K F b0 b1 b2 n) {b66:Nat} (q66:K b66=some (.cells #[vi 1] 3)):pq #[Sl.v n,vi aG.2] #[Sl.v n,vi aG.2] b2 b66 b1 b0 (bQ K0) F:=by
 unfold pq
 refine ⟨rfl,?_⟩
 refine ⟨?_,?_,?_⟩
 ·refine H.h.new fun b63 K F l q63 h=> ?_
  replace H:=H.up l h
  replace q66:=l _ _ q66
  exact yM H q63 q66
 ·refine H.h.new fun b69 K F l q69 h=> ?_
  replace H:=H.up l h
  replace q66:=l _ _ q66
  exact yN H q66 q69
 ·refine H.h.run (fun G _=>aH 0 (by decide) G) fun _ K F hr l h=> ?_
  replace H:=H.up l h
  replace q66:=l _ _ q66
  obtain ⟨_,rfl,hw⟩:=hr
  obtain ⟨m70,rfl,h70⟩:=hw.out
  refine ⟨_,rfl,?_⟩
  refine ⟨H.row,?_⟩
  refine ⟨H.row,?_⟩
  exact yO H h70 q66
theorem yQ (H:EK K0 K F b0 b1 b2 n) {b63:Nat} (q63:K b63=some (.cells #[vi 4] 3)) {b69:Nat} (q69:K b69=some (.cells #[vi 0] 3)):pu #[Sl.v n,vi aG.2] #[Sl.v n,vi aG.2] b2 b63 b69 b1 b0 (bQ K0) F:=by
 unfold pu
 refine ⟨rfl,?_⟩
 refine ⟨?_,?_⟩
 ·refine H.h.new fun b66 K F l q66 h=> ?_
  replace H:=H.up l h
  replace q63:=l _ _ q63
  replace q69:=l _ _ q69
  exact pY H q63 q66 q69
 ·refine H.h.run (fun G _=>aH 0 (by decide) G) fun _ K F hr l h=> ?_
  replace H:=H.up l h
  replace q63:=l _ _ q63
  replace q69:=l _ _ q69
  obtain ⟨_,rfl,hw⟩:=hr
  obtain ⟨m70,rfl,h70⟩:=hw.out
  refine ⟨_,rfl,?_⟩
  refine ⟨H.row,?_⟩
  refine ⟨H.row,?_⟩
  exact iz H h70 q63 q69
theorem yR (H:EK K0 K F b0 b1 b2 n) {b66:Nat} (q66:K b66=some (.cells #[vi 1] 3)) {b69:Nat} (q69:K b69=some (.cells #[vi 0] 3)):pv #[Sl.v n,vi aG.2] #[Sl.v n,vi aG.2] b2 b66 b69 b1 b0 (bQ K0) F:=by
 unfold pv
 refine ⟨rfl,?_⟩
 refine ⟨?_,?_⟩
 ·refine H.h.new fun b63 K F l q63 h=> ?_
  replace H:=H.up l h
  replace q66:=l _ _ q66
  replace q69:=l _ _ q69
  exact qi H q63 q66 q69
 ·refine H.h.run (fun G _=>aH 0 (by decide) G) fun _ K F hr l h=> ?_
  replace H:=H.up l h
  replace q66:=l _ _ q66
  replace q69:=l _ _ q69
  obtain ⟨_,rfl,hw⟩:=hr
  obtain ⟨m70,rfl,h70⟩:=hw.out
  refine ⟨_,rfl,?_⟩
  refine ⟨H.row,?_⟩
  refine ⟨H.row,?_⟩
  exact iB H h70 q66 q69
theorem yS (H:EK K0 K F b0 b1 b2 n) {m70:Sl} (h70:RL K m70 (dia (tv 0)).1) {b63:Nat} (q63:K b63=some (.cells #[vi 4] 3)) {b69:Nat} (q69:K b69=some (.cells #[vi 0] 3)):px #[Sl.v n,vi aG.2] #[Sl.v n,vi aG.2] #[Sl.v m70,vi (dia (tv 0)).2] b2 b63 b69 b1 b0 (bQ K0) F:=by
 unfold px
 refine ⟨rfl,?_⟩
 refine ⟨?_,?_⟩
 ·refine H.h.new fun b66 K F l q66 h=> ?_
  replace H:=H.up l h
  replace h70:=h70.le l
  replace q63:=l _ _ q63
  replace q69:=l _ _ q69
  exact pZ H h70 q63 q66 q69
 ·refine H.h.run (fun G hl=>aZ (x:=0) (by decide) ((DV.mk h70).le hl)) fun _ K F hr l h=> ?_
  replace H:=H.up l h
  replace h70:=h70.le l
  replace q63:=l _ _ q63
  replace q69:=l _ _ q69
  obtain ⟨_,rfl,hw⟩:=hr
  obtain ⟨m71,rfl,h71⟩:=hw.out
  refine ⟨_,rfl,?_⟩
  refine ⟨H.row,?_⟩
  refine ⟨H.row,?_⟩
  exact iw H h71 q63 q69
theorem yT (H:EK K0 K F b0 b1 b2 n) {m70:Sl} (h70:RL K m70 (dia (tv 0)).1) {b66:Nat} (q66:K b66=some (.cells #[vi 1] 3)) {b69:Nat} (q69:K b69=some (.cells #[vi 0] 3)):py #[Sl.v n,vi aG.2] #[Sl.v n,vi aG.2] #[Sl.v m70,vi (dia (tv 0)).2] b2 b66 b69 b1 b0 (bQ K0) F:=by
 unfold py
 refine ⟨rfl,?_⟩
 refine ⟨?_,?_⟩
 ·refine H.h.new fun b63 K F l q63 h=> ?_
  replace H:=H.up l h
  replace h70:=h70.le l
  replace q66:=l _ _ q66
  replace q69:=l _ _ q69
  exact qj H h70 q63 q66 q69
 ·refine H.h.run (fun G hl=>aZ (x:=0) (by decide) ((DV.mk h70).le hl)) fun _ K F hr l h=> ?_
  replace H:=H.up l h
  replace h70:=h70.le l
  replace q66:=l _ _ q66
  replace q69:=l _ _ q69
  obtain ⟨_,rfl,hw⟩:=hr
  obtain ⟨m71,rfl,h71⟩:=hw.out
  refine ⟨_,rfl,?_⟩
  refine ⟨H.row,?_⟩
  refine ⟨H.row,?_⟩
  exact iA H h71 q66 q69
theorem yU (H:EK K0 K F b0 b1 b2 n) {b63:Nat} (q63:K b63=some (.cells #[vi 4] 3)) {b69:Nat} (q69:K b69=some (.cells #[vi 0] 3)) {m71:Sl} (h71:RL K m71 (cH 0).1):pz #[Sl.v n,vi aG.2] #[Sl.v n,vi aG.2] b63 b69 #[Sl.v m71,vi (cH 0).2] b1 b0 (bQ K0) F:=by
 unfold pz
 refine ⟨rfl,?_⟩
 refine H.h.new fun b66 K F l q66 h=> ?_
 replace H:=H.up l h
 replace q63:=l _ _ q63
 replace q69:=l _ _ q69
 replace h71:=h71.le l
 exact p9 H q63 q66 q69 h71
theorem yV (H:EK K0 K F b0 b1 b2 n) {b66:Nat} (q66:K b66=some (.cells #[vi 1] 3)) {b69:Nat} (q69:K b69=some (.cells #[vi 0] 3)) {m71:Sl} (h71:RL K m71 (cH 0).1):pC #[Sl.v n,vi aG.2] #[Sl.v n,vi aG.2] b66 b69 #[Sl.v m71,vi (cH 0).2] b1 b0 (bQ K0) F:=by
 unfold pC
 refine ⟨rfl,?_⟩
 refine H.h.new fun b63 K F l q63 h=> ?_
 replace H:=H.up l h
 replace q66:=l _ _ q66
 replace q69:=l _ _ q69
 replace h71:=h71.le l
 exact qk H q63 q66 q69 h71
theorem qp (H:EK K0 K F b0 b1 b2 n) {m71:Sl} (h71:RL K m71 (cH 0).1) {b69:Nat} (q69:K b69=some (.cells #[vi 0] 3)):kB #[Sl.v m71,vi (cH 0).2] #[Sl.v n,vi aG.2] #[Sl.v n,vi aG.2] b69 b1 b0 (bQ K0) F:=by
 unfold kB
 refine ⟨rfl,?_⟩
 refine ⟨?_,?_⟩
 ·refine H.h.new fun b63 K F l q63 h=> ?_
  replace H:=H.up l h
  replace h71:=h71.le l
  replace q69:=l _ _ q69
  exact yU H q63 q69 h71
 ·refine H.h.new fun b66 K F l q66 h=> ?_
  replace H:=H.up l h
  replace h71:=h71.le l
  replace q69:=l _ _ q69
  exact yV H q66 q69 h71
theorem qq (H:EK K0 K F b0 b1 b2 n) {m70:Sl} (h70:RL K m70 (dia (tv 0)).1) {b69:Nat} (q69:K b69=some (.cells #[vi 0] 3)):kC #[Sl.v n,vi aG.2] #[Sl.v n,vi aG.2] #[Sl.v m70,vi (dia (tv 0)).2] b2 b69 b1 b0 (bQ K0) F:=by
 unfold kC
 refine ⟨?_,?_,?_⟩
 ·refine H.h.new fun b63 K F l q63 h=> ?_
  replace H:=H.up l h
  replace h70:=h70.le l
  replace q69:=l _ _ q69
  exact yS H h70 q63 q69
 ·refine H.h.new fun b66 K F l q66 h=> ?_
  replace H:=H.up l h
  replace h70:=h70.le l
  replace q69:=l _ _ q69
  exact yT H h70 q66 q69
 ·refine H.h.run (fun G hl=>aZ (x:=0) (by decide) ((DV.mk h70).le hl)) fun _ K F hr l h=> ?_
  replace H:=H.up l h
  replace h70:=h70.le l
  replace q69:=l _ _ q69
  obtain ⟨_,rfl,hw⟩:=hr
  obtain ⟨m71,rfl,h71⟩:=hw.out
  refine ⟨_,rfl,?_⟩
  refine ⟨H.row,?_⟩
  refine ⟨H.row,?_⟩
  exact qp H h71 q69
theorem yW (H:EK K0 K F b0 b1 b2 n) {b69:Nat} (q69:K b69=some (.cells #[vi 0] 3)):pD #[Sl.v n,vi aG.2] #[Sl.v n,vi aG.2] b2 b69 b1 b0 (bQ K0) F:=by
 unfold pD
 refine ⟨?_,?_,?_⟩
 ·refine H.h.new fun b63 K F l q63 h=> ?_
  replace H:=H.up l h
  replace q69:=l _ _ q69
  exact yQ H q63 q69
 ·refine H.h.new fun b66 K F l q66 h=> ?_
  replace H:=H.up l h
  replace q69:=l _ _ q69
  exact yR H q66 q69
 ·refine H.h.run (fun G _=>aH 0 (by decide) G) fun _ K F hr l h=> ?_
  replace H:=H.up l h
  replace q69:=l _ _ q69
  obtain ⟨_,rfl,hw⟩:=hr
  obtain ⟨m70,rfl,h70⟩:=hw.out
  refine ⟨_,rfl,?_⟩
  refine ⟨H.row,?_⟩
  refine ⟨H.row,?_⟩
  exact qq H h70 q69
theorem yX (H:EK K0 K F b0 b1 b2 n) {m70:Sl} (h70:RL K m70 (dia (tv 0)).1) {b63:Nat} (q63:K b63=some (.cells #[vi 4] 3)):pE #[Sl.v n,vi aG.2] #[Sl.v n,vi aG.2] #[Sl.v m70,vi (dia (tv 0)).2] b2 b63 b1 b0 (bQ K0) F:=by
 unfold pE
 refine ⟨rfl,?_⟩
 refine ⟨?_,?_,?_⟩
 ·refine H.h.new fun b66 K F l q66 h=> ?_
  replace H:=H.up l h
  replace h70:=h70.le l
  replace q63:=l _ _ q63
  exact qa H h70 q63 q66
 ·refine H.h.new fun b69 K F l q69 h=> ?_
  replace H:=H.up l h
  replace h70:=h70.le l
  replace q63:=l _ _ q63
  exact iz H h70 q63 q69
 ·refine H.h.run (fun G hl=>aZ (x:=0) (by decide) ((DV.mk h70).le hl)) fun _ K F hr l h=> ?_
  replace H:=H.up l h
  replace h70:=h70.le l
  replace q63:=l _ _ q63
  obtain ⟨_,rfl,hw⟩:=hr
  obtain ⟨m71,rfl,h71⟩:=hw.out
  refine ⟨_,rfl,?_⟩
  refine ⟨H.row,?_⟩
  refine ⟨H.row,?_⟩
  exact qh H h71 q63
theorem yY (H:EK K0 K F b0 b1 b2 n) {m70:Sl} (h70:RL K m70 (dia (tv 0)).1) {b66:Nat} (q66:K b66=some (.cells #[vi 1] 3)):pF #[Sl.v n,vi aG.2] #[Sl.v n,vi aG.2] #[Sl.v m70,vi (dia (tv 0)).2] b2 b66 b1 b0 (bQ K0) F:=by
 unfold pF
 refine ⟨rfl,?_⟩
 refine ⟨?_,?_,?_⟩
 ·refine H.h.new fun b63 K F l q63 h=> ?_
  replace H:=H.up l h
  replace h70:=h70.le l
  replace q66:=l _ _ q66
  exact ql H h70 q63 q66
 ·refine H.h.new fun b69 K F l q69 h=> ?_
  replace H:=H.up l h
  replace h70:=h70.le l
  replace q66:=l _ _ q66
  exact iB H h70 q66 q69
 ·refine H.h.run (fun G hl=>aZ (x:=0) (by decide) ((DV.mk h70).le hl)) fun _ K F hr l h=> ?_
  replace H:=H.up l h
  replace h70:=h70.le l
  replace q66:=l _ _ q66
  obtain ⟨_,rfl,hw⟩:=hr
  obtain ⟨m71,rfl,h71⟩:=hw.out
  refine ⟨_,rfl,?_⟩
  refine ⟨H.row,?_⟩
  refine ⟨H.row,?_⟩
  exact qo H h71 q66
theorem yZ (H:EK K0 K F b0 b1 b2 n) {m71:Sl} (h71:RL K m71 (cH 0).1) {b63:Nat} (q63:K b63=some (.cells #[vi 4] 3)):pG #[Sl.v n,vi aG.2] #[Sl.v n,vi aG.2] #[Sl.v m71,vi (cH 0).2] b63 b1 b0 (bQ K0) F:=by
 unfold pG
 refine ⟨rfl,?_⟩
 refine ⟨?_,?_⟩
 ·refine H.h.new fun b66 K F l q66 h=> ?_
  replace H:=H.up l h
  replace h71:=h71.le l
  replace q63:=l _ _ q63
  exact qe H h71 q63 q66
 ·refine H.h.new fun b69 K F l q69 h=> ?_
  replace H:=H.up l h
  replace h71:=h71.le l
  replace q63:=l _ _ q63
  exact iw H h71 q63 q69
theorem y4 (H:EK K0 K F b0 b1 b2 n) {m71:Sl} (h71:RL K m71 (cH 0).1) {b66:Nat} (q66:K b66=some (.cells #[vi 1] 3)):pH #[Sl.v n,vi aG.2] #[Sl.v n,vi aG.2] #[Sl.v m71,vi (cH 0).2] b66 b1 b0 (bQ K0) F:=by
 unfold pH
 refine ⟨rfl,?_⟩
 refine ⟨?_,?_⟩
 ·refine H.h.new fun b63 K F l q63 h=> ?_
  replace H:=H.up l h
  replace h71:=h71.le l
  replace q66:=l _ _ q66
  exact qn H h71 q63 q66
 ·refine H.h.new fun b69 K F l q69 h=> ?_
  replace H:=H.up l h
  replace h71:=h71.le l
  replace q66:=l _ _ q66
  exact iA H h71 q66 q69
theorem y5 (H:EK K0 K F b0 b1 b2 n) {m71:Sl} (h71:RL K m71 (cH 0).1):pI #[Sl.v n,vi aG.2] #[Sl.v n,vi aG.2] #[Sl.v m71,vi (cH 0).2] b1 b0 (bQ K0) F:=by
 unfold pI
 refine ⟨?_,?_,?_⟩
 ·refine H.h.new fun b63 K F l q63 h=> ?_
  replace H:=H.up l h
  replace h71:=h71.le l
  exact yZ H h71 q63
 ·refine H.h.new fun b66 K F l q66 h=> ?_
  replace H:=H.up l h
  replace h71:=h71.le l
  exact y4 H h71 q66
 ·refine H.h.new fun b69 K F l q69 h=> ?_
  replace H:=H.up l h
  replace h71:=h71.le l
  exact qp H h71 q69
theorem y6 (H:EK K0 K F b0 b1 b2 n) {m70:Sl} (h70:RL K m70 (dia (tv 0)).1):pJ #[Sl.v n,vi aG.2] #[Sl.v n,vi aG.2] #[Sl.v m70,vi (dia (tv 0)).2] b2 b1 b0 (bQ K0) F:=by
 unfold pJ
 refine ⟨?_,?_,?_,?_⟩
 ·refine H.h.new fun b63 K F l q63 h=> ?_
  replace H:=H.up l h
  replace h70:=h70.le l
  exact yX H h70 q63
 ·refine H.h.new fun b66 K F l q66 h=> ?_
  replace H:=H.up l h
  replace h70:=h70.le l
  exact yY H h70 q66
 ·refine H.h.new fun b69 K F l q69 h=> ?_
  replace H:=H.up l h
  replace h70:=h70.le l
  exact qq H h70 q69
 ·refine H.h.run (fun G hl=>aZ (x:=0) (by decide) ((DV.mk h70).le hl)) fun _ K F hr l h=> ?_
  replace H:=H.up l h
  replace h70:=h70.le l
  obtain ⟨_,rfl,hw⟩:=hr
  obtain ⟨m71,rfl,h71⟩:=hw.out
  refine ⟨_,rfl,?_⟩
  refine ⟨H.row,?_⟩
  refine ⟨H.row,?_⟩
  exact y5 H h71
end
theorem kM (F:PH):ae prog 107 #[] F fun r F'=>(∃w,r=.agg w∧GV F' w cP)∧F.le F':=by
 refine M9 ?_
 unfold GM
 refine fG F [⟨#[69]⟩] rfl rfl fun b0 b1 F1 h=> ?_
 refine h.allv fun b2 K1 F2 n l1 q hn h=> ?_
 refine h.rule3 (dv 0) (cf 1) (dv 0) (by decide) fun F2 h=> ?_
 refine h.rule3 (dv 0) (cf 2) (dv 0) (by decide) fun F2 h=> ?_
 refine h.rule3 (cf 3) (dv 0) (cf 4) (by decide) fun F2 h=> ?_
 refine h.rule1 (cf 0) (by decide) fun F2 h=> ?_
 refine h.rule3 (dv 0) (cf 8) (dv 0) (by decide) fun F2 h=> ?_
 refine h.brk 2 rfl fun F2 h=> ?_
 refine h.cnd 4 rfl 1 (by decide) fun F2 h=> ?_
 refine ⟨_,rfl,aj (h.le _ _ q),_,rfl,aj (h.le _ _ q),?_⟩
 have H:EK F _ _ b0 b1 b2 n:=⟨h,l1,q,hn⟩
 refine ⟨?_,?_,?_,?_⟩
 ·refine H.h.new fun b63 K F l q63 h=> ?_
  replace H:=H.up l h
  exact Au H q63
 ·refine H.h.new fun b66 K F l q66 h=> ?_
  replace H:=H.up l h
  exact yP H q66
 ·refine H.h.new fun b69 K F l q69 h=> ?_
  replace H:=H.up l h
  exact yW H q69
 ·refine H.h.run (fun G _=>aH 0 (by decide) G) fun _ K F hr l h=> ?_
  replace H:=H.up l h
  obtain ⟨_,rfl,hw⟩:=hr
  obtain ⟨m70,rfl,h70⟩:=hw.out
  refine ⟨_,rfl,?_⟩
  refine ⟨H.row,?_⟩
  refine ⟨H.row,?_⟩
  exact y6 H h70
noncomputable def bS (k:Nat):Gr:=if k=0 then cP else if k=1 then cj else if k=2 then dV else if k=3 then ma else if k=4 then jB else jC
theorem uV (k:Nat) (F:PH):ae prog 37 #[.int .u8 (k:Int)] F fun r F'=>(∃w,r=.agg w∧GV F' w (bS (k % 6)))∧F.le F':=by
 refine OO ?_
 unfold M2
 refine (St.start F).new fun b F1 h=> ?_
 have e:Int.tmod (k:Int) 6=((k % 6:Nat):Int):=by rw [Int.tmod_eq_emod_of_nonneg (by omega)];omega
 rw [e]
 have hk:k % 6<6:=Nat.mod_lt _ (by decide)
 generalize k % 6=j at*
 have fin:∀{v:Value} {G F1:PH},F.le G→(∃w,v=Value.agg w∧GV G w (bS j))→St G F1 [pt b (.cells zG 39)]→∃w:Array Value,v=Value.agg w∧aB F1 (Addr.mk b 0 none) 9 w fun F2=>∃w:Array Value,w.size=9∧F2.row (Addr.mk b 0 none) w∧((∃w',Value.agg w=Value.agg w'∧GV F2 w' (bS j))∧F.le F2):=fun {v G F1} hl hv h=>by
  obtain ⟨w,rfl,hv⟩:=hv
  exact ⟨w,rfl,h.put0 (w':=w) hv.size rfl hv.st fun F2 h=>⟨w,hv.size,h.whole0,⟨w,rfl,hv.le h.le⟩,aa hl h.le⟩⟩
 refine ⟨fun h0=> ?_,fun h0=>⟨fun h1=> ?_,fun h1=>⟨fun h2=> ?_,fun h2=>⟨fun h3=> ?_,fun h3=>⟨fun h4=> ?_,fun h4=> ?_⟩⟩⟩⟩⟩
 ·obtain rfl:j=0:=by omega
  exact h.run (kM _) fun _ G F2 hr l h=>fin l hr h
 ·obtain rfl:j=1:=by omega
  exact h.run (lQ _) fun _ G F2 hr l h=>fin l hr h
 ·obtain rfl:j=2:=by omega
  exact h.run (jD _) fun _ G F2 hr l h=>fin l hr h
 ·obtain rfl:j=3:=by omega
  exact h.run (tK _) fun _ G F2 hr l h=>fin l hr h
 ·obtain rfl:j=4:=by omega
  exact h.run (ru _) fun _ G F2 hr l h=>fin l hr h
 ·obtain rfl:j=5:=by omega
  exact h.run (rz _) fun _ G F2 hr l h=>fin l hr h
end Go.Proofs.YtenpmjhnhepfdaaGreatDoor
