/-
  Known grammars with levels and filters; all of them. Printed by a program (mkIf.py).
-/
import Derived.Test.YtenpmjhnhepfdaaGreatDoorIe
namespace Go.Proofs.YtenpmjhnhepfdaaGreatDoor
open Go Go.Proofs.Tryz Tr
set_option maxRecDepth 10000
theorem cE {F:PH} {b:Nat} {e:TypeId} {x:Int} (q:F b=some (.cells #[vi x] e)):RL F (Sl.mk (some (Addr.mk b 0 none)) 1 1) [x]:=RL.ints.2 (RdS.new q rfl rfl (Nat.le_refl _))
theorem fI {F:PH} {x:Fi} {t n:Sl} (ht:RL F t x.toks) (hn:RL F n x.cond.1):Mem.rep F x (x.arr t n):=⟨t,n,rfl,ht,hn⟩
theorem df {F:PH} {x:Lv} {p n:Sl} (hp:RL F p x.ps) (hn:RL F n x.cond.1):Mem.rep F x (x.arr p n):=⟨p,n,rfl,hp,hn⟩
theorem rb (F:PH):ae prog 111 #[] F fun r F'=>(∃w,r=.agg w∧GV F' w jo)∧F.le F':=by
 refine Mr ?_
 unfold FV
 refine fg F [⟨#[83]⟩,⟨#[87]⟩,⟨#[86]⟩] rfl rfl fun b0 b1 F1 h=> ?_
 refine h.rule2 (dv 1) (dv 2) (by decide) fun F2 h=> ?_
 refine h.rule1 (ca 0) (by decide) fun F2 h=> ?_
 refine h.rule2 (ca 0) (ca 0) (by decide) fun F2 h=> ?_
 refine h.rule0 (by decide) fun F2 h=> ?_
 refine h.rule2 (ca 0) (dv 2) (by decide) fun F2 h=> ?_
 refine h.rule2 (ca 1) (dv 2) (by decide) fun F2 h=> ?_
 refine h.rank 1 rfl fun F2 h=> ?_
 refine h.cnd 5 rfl 1 (by decide) fun F2 h=> ?_
 refine h.new fun b64 K3 F3 l3 q64 h=> ?_
 refine h.run (fun G _=>aH 0 (by decide) G) fun _ K4 F4 hr l4 h=> ?_
 obtain ⟨_,rfl,hw⟩:=hr
 obtain ⟨m,rfl,hm⟩:=hw.out
 refine ⟨_,rfl,rfl,?_⟩
 refine h.new fun b67 K5 F5 l5 q67 h=> ?_
 refine h.run (fun G _=>aH 1 (by decide) G) fun _ K6 F6 hr l6 h=> ?_
 obtain ⟨_,rfl,hv⟩:=hr
 refine ⟨_,rfl,?_⟩
 refine h.run (fun G hl=>ba (by decide) (hv.le hl)) fun _ K7 F7 hr l7 h=> ?_
 obtain ⟨_,rfl,hw⟩:=hr
 obtain ⟨m',rfl,hm'⟩:=hw.out
 refine ⟨_,rfl,rfl,rfl,rfl,?_⟩
 refine h.new fun b71 K8 F8 l8 q71 h=> ?_
 have l58:=aa l6 (aa l7 l8)
 have l48:=aa l5 l58
 refine h.fils (x:=[⟨3,0,0,0,1,0,[0],dia (tv 0)⟩,⟨4,0,0,0,2,0,[1],cG 1⟩]) ⟨[_,_],.cons (fI (cE (l48 _ _ (l4 _ _ q64))) (hm.le l48)) (.cons (fI (cE (l58 _ _ q67)) (hm'.le l8)) .nil),RdS.new q71 (by kernel_rfl) rfl (Nat.le_refl _)⟩ fun F9 h=> ?_
 exact h.fin (R:=fun r F'=>(∃w,r=.agg w∧GV F' w jo)∧F.le F') fun w F' hv hl=>⟨⟨w,rfl,hv⟩,aa l3 (aa l4 (aa l48 hl))⟩
noncomputable def rc:Gr:={(dy [⟨#[83]⟩,⟨#[67]⟩]) with prods:=cf.prods}
theorem ww {K F F0:PH} {b0 b1 b61 b64:Nat} {g:Gr} {c n t s sp l m v:Sl} {vs:List (Array Value)} (hF:F0.le K) (hg:{g with fils:=[⟨2,0,2,1,0,0,[],dia (tv 0)⟩,⟨5,0,0,0,0,0,[5,6],dia (tv 1)⟩]}=cf)
  (st:St K F [pt b64 (.cells (wr (wr (#[.int .i64 0,.int .i64 0,.int .i64 0,.int .i64 0,.int .i64 0,.int .i64 0,.slice none 0 0,.slice none 0 0,.int .i64 0,.int .i64 0,.int .i64 0,.int .i64 0,.int .i64 0,.int .i64 0,.int .i64 0,.slice none 0 0,.slice none 0 0,.int .i64 0]:Array Value) 0 (wr (Array.setIfInBounds (Array.setIfInBounds (Array.setIfInBounds (#[.int .i64 0,.int .i64 0,.int .i64 0,.int .i64 0,.int .i64 0,.int .i64 0,.slice none 0 0,.slice none 0 0,.int .i64 0]:Array Value) 0 (vi 2)) 2 (vi 2)) 3 (vi 1)) 7 (#[m.v,vi (dia (tv 0)).2]:Array Value).toList).toList) 9 (wr (Array.setIfInBounds (Array.setIfInBounds (#[.int .i64 0,.int .i64 0,.int .i64 0,.int .i64 0,.int .i64 0,.int .i64 0,.slice none 0 0,.slice none 0 0,.int .i64 0]:Array Value) 0 (vi 5)) 6 (Sl.v (Sl.mk (some (Addr.mk b61 0 none)) 2 2))) 7 (#[v.v,vi aF.2]:Array Value).toList).toList) 74),pt b1 (.cells (g.arr c n t s sp l (Sl.mk (some (Addr.mk b64 0 none)) 2 2)) 39),own sp 67 13 (cat vs),pt b0 (.cells zG 39)])
  (hr:cw K g.prods vs) (hc:RL K c g.conds) (hn:RL K n g.fam.1) (ht:RL K t g.toks) (hs:RL K s g.nons) (hl:RL K l g.lvs) (hm:RL K m (dia (tv 0)).1) (q61:RL K (Sl.mk (some (Addr.mk b61 0 none)) 2 2) [(5:Int),6]):
  mH b0 b1 (fun r F'=>(∃w,r=.agg w∧GV F' w cf)∧F0.le F') F:=by
 unfold mH
 refine ⟨_,st.ld1 rfl,?_⟩
 refine st.run (aH 1 (by decide) _) fun _ K1 F1 hr1 l1 st=> ?_
 obtain ⟨_,rfl,hw⟩:=hr1
 obtain ⟨m1,rfl,hm1⟩:=hw.out
 refine ⟨_,rfl,st.ld1 rfl,_,rfl,by decide,(by show (1:Int)<2;decide),?_⟩
 simp only [aI]
 refine st.putR0 (o:=16) (w':= #[vi 2,vi 0,vi 2,vi 1,vi 0,vi 0,Sl.v Sl.nil,m.v,vi (dia (tv 0)).2,vi 5,vi 0,vi 0,vi 0,vi 0,vi 0,Sl.v (Sl.mk (some (Addr.mk b61 0 none)) 2 2),m1.v,vi (dia (tv 1)).2]) rfl (by simp [ai,Sl.v]) (by rw [dg,dg];show 16+2≤18;decide) (by kernel_rfl) fun F2 st=> ?_
 obtain ⟨K2,l2,⟨H,hA,hH⟩,st⟩:=st.pin
 have q:=hH _ _ hA
 have l12:=aa l1 l2
 have hf:RL K2 (Sl.mk (some (Addr.mk b64 0 none)) 2 2) [(⟨2,0,2,1,0,0,[],dia (tv 0)⟩:Fi),⟨5,0,0,0,0,0,[5,6],dia (tv 1)⟩]:=
  ⟨[_,_],.cons (fI (t:=Sl.nil) (.nil _) (hm.le l12)) (.cons (fI (q61.le l12) (hm1.le l2)) .nil),RdS.new q (by kernel_rfl) rfl (Nat.le_refl _)⟩
 have h:KS K2 F2 b0 b1 cf:=by
  rw [← hg]
  exact ⟨K2,c,n,t,s,sp,l,_,vs,le_refl' _,st,hr.le l12,hc.le l12,hn.le l12,ht.le l12,hs.le l12,hl.le l12,hf⟩
 exact h.fin (R:=fun r F'=>(∃w,r=.agg w∧GV F' w cf)∧F0.le F') fun w F' hv hl=>⟨⟨w,rfl,hv⟩,aa hF (aa l12 hl)⟩
theorem lz (F:PH):ae prog 108 #[] F fun r F'=>(∃w,r=.agg w∧GV F' w cf)∧F.le F':=by
 refine Mo ?_
 unfold FS
 refine fg F [⟨#[83]⟩,⟨#[67]⟩] rfl rfl fun b0 b1 F1 h=> ?_
 refine h.allv fun b2 K1 F2 n l1 q hn h=> ?_
 refine h.rule5 (ca 5) (dv 1) (dv 0) (ca 6) (dv 0) (by decide) fun F2 h=> ?_
 refine h.rule3 (ca 5) (dv 1) (dv 0) (by decide) fun F2 h=> ?_
 refine h.rule2 (dv 1) (ca 7) (by decide) fun F2 h=> ?_
 refine h.rule3 (ca 3) (dv 0) (ca 4) (by decide) fun F2 h=> ?_
 refine h.rule1 (ca 0) (by decide) fun F2 h=> ?_
 refine h.brk 3 rfl fun F2 h=> ?_
 refine ⟨_,rfl,aj (h.le _ _ q),?_⟩
 obtain ⟨G,c,n',t,s,sp,l,f,vs,h⟩:=h
 have hn:=hn.le h.k
 have l1:=aa l1 h.k
 refine ⟨?_,?_⟩
 ·refine h.st.run (aH 0 (by decide) _) fun _ K4 F4 hr l4 st=> ?_
  obtain ⟨_,rfl,hw⟩:=hr
  obtain ⟨m,rfl,hm⟩:=hw.out
  refine ⟨_,rfl,aj (st.le _ _ (l4 _ _ (h.k _ _ q))),rfl,?_⟩
  refine st.newG fun b61 K5 F5 l5 q61 _ st=> ?_
  refine ⟨rfl,rfl,rfl,?_⟩
  refine st.new fun b64 F6 st=> ?_
  refine st.set1 (w':=(rc.arr c n' t s sp l (Sl.mk (some (Addr.mk b64 0 none)) 2 2))) (by show 8<9;decide) rfl fun F7 st=> ?_
  have l45:=aa l4 l5
  exact ww (g:=rc) (aa l1 l45) rfl st (h.r.le l45) (h.c.le l45) (h.n.le l45) (h.t.le l45) (h.s.le l45) (h.l.le l45) (hm.le l5) (RL.ints.2 (RdS.new q61 rfl rfl (Nat.le_refl _)))
 ·refine h.st.newG fun b61 K5 F5 l5 q61 _ st=> ?_
  refine ⟨rfl,?_⟩
  refine st.run (aH 0 (by decide) _) fun _ K4 F4 hr l4 st=> ?_
  obtain ⟨_,rfl,hw⟩:=hr
  obtain ⟨m,rfl,hm⟩:=hw.out
  refine ⟨_,rfl,aj (st.le _ _ (l4 _ _ (l5 _ _ (h.k _ _ q)))),rfl,rfl,rfl,?_⟩
  refine st.new fun b64 F6 st=> ?_
  refine st.set1 (w':=(rc.arr c n' t s sp l (Sl.mk (some (Addr.mk b64 0 none)) 2 2))) (by show 8<9;decide) rfl fun F7 st=> ?_
  have l45:=aa l5 l4
  exact ww (g:=rc) (aa l1 l45) rfl st (h.r.le l45) (h.c.le l45) (h.n.le l45) (h.t.le l45) (h.s.le l45) (h.l.le l45) hm ((RL.ints.2 (RdS.new q61 rfl rfl (Nat.le_refl _))).le l4)
noncomputable def D1:Gr:={cO with lvs:=[]}
structure EK (K0 K F:PH) (b0 b1 b2:Nat) (n:Sl):Prop where
 h:KS K F b0 b1 D1
 l:K0.le K
 q:K b2=some (.cells #[Sl.v n,vi aF.2] 33)
 n:RL K n aF.1
theorem EK.up {K0 K F K' F':PH} {b0 b1 b2:Nat} {n:Sl} (H:EK K0 K F b0 b1 b2 n) (l:K.le K') (h:KS K' F' b0 b1 D1):EK K0 K' F' b0 b1 b2 n:=⟨h,aa H.l l,l _ _ H.q,H.n.le l⟩
theorem EK.row {K0 K F:PH} {b0 b1 b2:Nat} {n:Sl} (H:EK K0 K F b0 b1 b2 n):F.row (Addr.mk b2 0 none) #[Sl.v n,vi aF.2]:=aj (H.h.le _ _ H.q)
section
variable {K0 K F:PH} {b0 b1 b2:Nat} {n:Sl}
abbrev bO (K0:PH):VR:=fun r F'=>(∃w,r=.agg w∧GV F' w cO)∧K0.le F'
theorem Gx (H:EK K0 K F b0 b1 b2 n) {b73:Nat} (hr:RL K (Sl.mk (some (Addr.mk b73 0 none)) 3 3) cO.lvs):jU b1 b73 b0 (bO K0) F:=by
 unfold jU
 refine H.h.lvs hr fun F9 h=> ?_
 unfold xV
 exact h.fin (R:=bO K0) fun w F' hv hl=>⟨⟨w,rfl,hv⟩,aa H.l hl⟩
theorem fd (H:EK K0 K F b0 b1 b2 n) {m71:Sl} (h71:RL K m71 (cG 0).1) {b63:Nat} (q63:K b63=some (.cells #[vi 4] 3)) {b66:Nat} (q66:K b66=some (.cells #[vi 1] 3)) {b69:Nat} (q69:K b69=some (.cells #[vi 0] 3)):eM #[Sl.v m71,vi (cG 0).2] b63 #[Sl.v n,vi aF.2] b66 #[Sl.v n,vi aF.2] b69 b1 b0 (bO K0) F:=by
 unfold eM
 refine ⟨rfl,?_⟩
 refine ⟨rfl,?_⟩
 refine ⟨rfl,?_⟩
 refine ⟨rfl,?_⟩
 refine H.h.new fun b73 K F l q73 h=> ?_
 replace H:=H.up l h
 replace h71:=h71.le l
 replace q63:=l _ _ q63
 replace q66:=l _ _ q66
 replace q69:=l _ _ q69
 exact Gx H ⟨[_,_,_],.cons (df (cE q63) H.n) (.cons (df (cE q66) H.n) (.cons (df (cE q69) h71) .nil)),RdS.new q73 (by kernel_rfl) rfl (Nat.le_refl _)⟩
theorem fe (H:EK K0 K F b0 b1 b2 n) {m70:Sl} (h70:RL K m70 (dia (tv 0)).1) {b63:Nat} (q63:K b63=some (.cells #[vi 4] 3)) {b66:Nat} (q66:K b66=some (.cells #[vi 1] 3)) {b69:Nat} (q69:K b69=some (.cells #[vi 0] 3)):eN #[Sl.v m70,vi (dia (tv 0)).2] b2 #[Sl.v n,vi aF.2] #[Sl.v n,vi aF.2] b63 b66 b69 b1 b0 (bO K0) F:=by
 unfold eN
 refine H.h.run (fun G hl=>ba (x:=0) (by decide) ((DV.mk h70).le hl)) fun _ K F hr l h=> ?_
 replace H:=H.up l h
 replace h70:=h70.le l
 replace q63:=l _ _ q63
 replace q66:=l _ _ q66
 replace q69:=l _ _ q69
 obtain ⟨_,rfl,hw⟩:=hr
 obtain ⟨m71,rfl,h71⟩:=hw.out
 refine ⟨_,rfl,?_⟩
 refine ⟨H.row,?_⟩
 refine ⟨H.row,?_⟩
 exact fd H h71 q63 q66 q69
theorem tn (H:EK K0 K F b0 b1 b2 n) {b63:Nat} (q63:K b63=some (.cells #[vi 4] 3)) {b66:Nat} (q66:K b66=some (.cells #[vi 1] 3)) {b69:Nat} (q69:K b69=some (.cells #[vi 0] 3)):mF b2 #[Sl.v n,vi aF.2] #[Sl.v n,vi aF.2] b63 b66 b69 b1 b0 (bO K0) F:=by
 unfold mF
 refine H.h.run (fun G _=>aH 0 (by decide) G) fun _ K F hr l h=> ?_
 replace H:=H.up l h
 replace q63:=l _ _ q63
 replace q66:=l _ _ q66
 replace q69:=l _ _ q69
 obtain ⟨_,rfl,hw⟩:=hr
 obtain ⟨m70,rfl,h70⟩:=hw.out
 refine ⟨_,rfl,?_⟩
 refine ⟨H.row,?_⟩
 refine ⟨H.row,?_⟩
 exact fe H h70 q63 q66 q69
theorem nc (H:EK K0 K F b0 b1 b2 n) {m71:Sl} (h71:RL K m71 (cG 0).1) {b63:Nat} (q63:K b63=some (.cells #[vi 4] 3)) {b66:Nat} (q66:K b66=some (.cells #[vi 1] 3)):jV #[Sl.v m71,vi (cG 0).2] b63 #[Sl.v n,vi aF.2] b66 #[Sl.v n,vi aF.2] b1 b0 (bO K0) F:=by
 unfold jV
 refine H.h.new fun b69 K F l q69 h=> ?_
 replace H:=H.up l h
 replace h71:=h71.le l
 replace q63:=l _ _ q63
 replace q66:=l _ _ q66
 exact fd H h71 q63 q66 q69
theorem tp (H:EK K0 K F b0 b1 b2 n) {m70:Sl} (h70:RL K m70 (dia (tv 0)).1) {b63:Nat} (q63:K b63=some (.cells #[vi 4] 3)) {b66:Nat} (q66:K b66=some (.cells #[vi 1] 3)):mG #[Sl.v m70,vi (dia (tv 0)).2] b2 #[Sl.v n,vi aF.2] #[Sl.v n,vi aF.2] b63 b66 b1 b0 (bO K0) F:=by
 unfold mG
 refine ⟨?_,?_⟩
 ·refine H.h.new fun b69 K F l q69 h=> ?_
  replace H:=H.up l h
  replace h70:=h70.le l
  replace q63:=l _ _ q63
  replace q66:=l _ _ q66
  exact fe H h70 q63 q66 q69
 ·refine H.h.run (fun G hl=>ba (x:=0) (by decide) ((DV.mk h70).le hl)) fun _ K F hr l h=> ?_
  replace H:=H.up l h
  replace h70:=h70.le l
  replace q63:=l _ _ q63
  replace q66:=l _ _ q66
  obtain ⟨_,rfl,hw⟩:=hr
  obtain ⟨m71,rfl,h71⟩:=hw.out
  refine ⟨_,rfl,?_⟩
  refine ⟨H.row,?_⟩
  refine ⟨H.row,?_⟩
  exact nc H h71 q63 q66
theorem zY (H:EK K0 K F b0 b1 b2 n) {b63:Nat} (q63:K b63=some (.cells #[vi 4] 3)) {b66:Nat} (q66:K b66=some (.cells #[vi 1] 3)):sF #[Sl.v n,vi aF.2] b2 #[Sl.v n,vi aF.2] b63 b66 b1 b0 (bO K0) F:=by
 unfold sF
 refine ⟨rfl,?_⟩
 refine ⟨?_,?_⟩
 ·refine H.h.new fun b69 K F l q69 h=> ?_
  replace H:=H.up l h
  replace q63:=l _ _ q63
  replace q66:=l _ _ q66
  exact tn H q63 q66 q69
 ·refine H.h.run (fun G _=>aH 0 (by decide) G) fun _ K F hr l h=> ?_
  replace H:=H.up l h
  replace q63:=l _ _ q63
  replace q66:=l _ _ q66
  obtain ⟨_,rfl,hw⟩:=hr
  obtain ⟨m70,rfl,h70⟩:=hw.out
  refine ⟨_,rfl,?_⟩
  refine ⟨H.row,?_⟩
  refine ⟨H.row,?_⟩
  exact tp H h70 q63 q66
theorem pN (H:EK K0 K F b0 b1 b2 n) {b63:Nat} (q63:K b63=some (.cells #[vi 4] 3)) {b66:Nat} (q66:K b66=some (.cells #[vi 1] 3)) {b69:Nat} (q69:K b69=some (.cells #[vi 0] 3)):jW #[Sl.v n,vi aF.2] b2 #[Sl.v n,vi aF.2] b63 b66 b69 b1 b0 (bO K0) F:=by
 unfold jW
 refine ⟨rfl,?_⟩
 refine H.h.run (fun G _=>aH 0 (by decide) G) fun _ K F hr l h=> ?_
 replace H:=H.up l h
 replace q63:=l _ _ q63
 replace q66:=l _ _ q66
 replace q69:=l _ _ q69
 obtain ⟨_,rfl,hw⟩:=hr
 obtain ⟨m70,rfl,h70⟩:=hw.out
 refine ⟨_,rfl,?_⟩
 refine ⟨H.row,?_⟩
 refine ⟨H.row,?_⟩
 exact fe H h70 q63 q66 q69
theorem pO (H:EK K0 K F b0 b1 b2 n) {m70:Sl} (h70:RL K m70 (dia (tv 0)).1) {b63:Nat} (q63:K b63=some (.cells #[vi 4] 3)) {b66:Nat} (q66:K b66=some (.cells #[vi 1] 3)) {b69:Nat} (q69:K b69=some (.cells #[vi 0] 3)):jX #[Sl.v n,vi aF.2] #[Sl.v m70,vi (dia (tv 0)).2] b2 #[Sl.v n,vi aF.2] b63 b66 b69 b1 b0 (bO K0) F:=by
 unfold jX
 refine ⟨rfl,?_⟩
 refine H.h.run (fun G hl=>ba (x:=0) (by decide) ((DV.mk h70).le hl)) fun _ K F hr l h=> ?_
 replace H:=H.up l h
 replace h70:=h70.le l
 replace q63:=l _ _ q63
 replace q66:=l _ _ q66
 replace q69:=l _ _ q69
 obtain ⟨_,rfl,hw⟩:=hr
 obtain ⟨m71,rfl,h71⟩:=hw.out
 refine ⟨_,rfl,?_⟩
 refine ⟨H.row,?_⟩
 refine ⟨H.row,?_⟩
 exact fd H h71 q63 q66 q69
theorem pP (H:EK K0 K F b0 b1 b2 n) {b63:Nat} (q63:K b63=some (.cells #[vi 4] 3)) {b66:Nat} (q66:K b66=some (.cells #[vi 1] 3)) {b69:Nat} (q69:K b69=some (.cells #[vi 0] 3)) {m71:Sl} (h71:RL K m71 (cG 0).1):jY #[Sl.v n,vi aF.2] b63 #[Sl.v n,vi aF.2] b66 b69 #[Sl.v m71,vi (cG 0).2] b1 b0 (bO K0) F:=by
 unfold jY
 refine ⟨rfl,?_⟩
 refine ⟨rfl,?_⟩
 refine ⟨rfl,?_⟩
 refine ⟨rfl,?_⟩
 refine H.h.new fun b73 K F l q73 h=> ?_
 replace H:=H.up l h
 replace q63:=l _ _ q63
 replace q66:=l _ _ q66
 replace q69:=l _ _ q69
 replace h71:=h71.le l
 exact Gx H ⟨[_,_,_],.cons (df (cE q63) H.n) (.cons (df (cE q66) H.n) (.cons (df (cE q69) h71) .nil)),RdS.new q73 (by kernel_rfl) rfl (Nat.le_refl _)⟩
theorem gZ (H:EK K0 K F b0 b1 b2 n) {m71:Sl} (h71:RL K m71 (cG 0).1) {b63:Nat} (q63:K b63=some (.cells #[vi 4] 3)) {b69:Nat} (q69:K b69=some (.cells #[vi 0] 3)):fD #[Sl.v m71,vi (cG 0).2] #[Sl.v n,vi aF.2] b63 #[Sl.v n,vi aF.2] b69 b1 b0 (bO K0) F:=by
 unfold fD
 refine ⟨rfl,?_⟩
 refine H.h.new fun b66 K F l q66 h=> ?_
 replace H:=H.up l h
 replace h71:=h71.le l
 replace q63:=l _ _ q63
 replace q69:=l _ _ q69
 exact pP H q63 q66 q69 h71
theorem g0 (H:EK K0 K F b0 b1 b2 n) {m70:Sl} (h70:RL K m70 (dia (tv 0)).1) {b63:Nat} (q63:K b63=some (.cells #[vi 4] 3)) {b69:Nat} (q69:K b69=some (.cells #[vi 0] 3)):fE #[Sl.v n,vi aF.2] #[Sl.v m70,vi (dia (tv 0)).2] b2 #[Sl.v n,vi aF.2] b63 b69 b1 b0 (bO K0) F:=by
 unfold fE
 refine ⟨?_,?_⟩
 ·refine H.h.new fun b66 K F l q66 h=> ?_
  replace H:=H.up l h
  replace h70:=h70.le l
  replace q63:=l _ _ q63
  replace q69:=l _ _ q69
  exact pO H h70 q63 q66 q69
 ·refine H.h.run (fun G hl=>ba (x:=0) (by decide) ((DV.mk h70).le hl)) fun _ K F hr l h=> ?_
  replace H:=H.up l h
  replace h70:=h70.le l
  replace q63:=l _ _ q63
  replace q69:=l _ _ q69
  obtain ⟨_,rfl,hw⟩:=hr
  obtain ⟨m71,rfl,h71⟩:=hw.out
  refine ⟨_,rfl,?_⟩
  refine ⟨H.row,?_⟩
  refine ⟨H.row,?_⟩
  exact gZ H h71 q63 q69
theorem ym (H:EK K0 K F b0 b1 b2 n) {b63:Nat} (q63:K b63=some (.cells #[vi 4] 3)) {b69:Nat} (q69:K b69=some (.cells #[vi 0] 3)):oR #[Sl.v n,vi aF.2] b2 #[Sl.v n,vi aF.2] b63 b69 b1 b0 (bO K0) F:=by
 unfold oR
 refine ⟨?_,?_⟩
 ·refine H.h.new fun b66 K F l q66 h=> ?_
  replace H:=H.up l h
  replace q63:=l _ _ q63
  replace q69:=l _ _ q69
  exact pN H q63 q66 q69
 ·refine H.h.run (fun G _=>aH 0 (by decide) G) fun _ K F hr l h=> ?_
  replace H:=H.up l h
  replace q63:=l _ _ q63
  replace q69:=l _ _ q69
  obtain ⟨_,rfl,hw⟩:=hr
  obtain ⟨m70,rfl,h70⟩:=hw.out
  refine ⟨_,rfl,?_⟩
  refine ⟨H.row,?_⟩
  refine ⟨H.row,?_⟩
  exact g0 H h70 q63 q69
theorem pQ (H:EK K0 K F b0 b1 b2 n) {m70:Sl} (h70:RL K m70 (dia (tv 0)).1) {b63:Nat} (q63:K b63=some (.cells #[vi 4] 3)) {b66:Nat} (q66:K b66=some (.cells #[vi 1] 3)):jZ #[Sl.v n,vi aF.2] #[Sl.v m70,vi (dia (tv 0)).2] b2 #[Sl.v n,vi aF.2] b63 b66 b1 b0 (bO K0) F:=by
 unfold jZ
 refine ⟨rfl,?_⟩
 refine ⟨?_,?_⟩
 ·refine H.h.new fun b69 K F l q69 h=> ?_
  replace H:=H.up l h
  replace h70:=h70.le l
  replace q63:=l _ _ q63
  replace q66:=l _ _ q66
  exact fe H h70 q63 q66 q69
 ·refine H.h.run (fun G hl=>ba (x:=0) (by decide) ((DV.mk h70).le hl)) fun _ K F hr l h=> ?_
  replace H:=H.up l h
  replace h70:=h70.le l
  replace q63:=l _ _ q63
  replace q66:=l _ _ q66
  obtain ⟨_,rfl,hw⟩:=hr
  obtain ⟨m71,rfl,h71⟩:=hw.out
  refine ⟨_,rfl,?_⟩
  refine ⟨H.row,?_⟩
  refine ⟨H.row,?_⟩
  exact nc H h71 q63 q66
theorem pR (H:EK K0 K F b0 b1 b2 n) {m71:Sl} (h71:RL K m71 (cG 0).1) {b63:Nat} (q63:K b63=some (.cells #[vi 4] 3)) {b66:Nat} (q66:K b66=some (.cells #[vi 1] 3)):j0 #[Sl.v n,vi aF.2] #[Sl.v m71,vi (cG 0).2] b63 #[Sl.v n,vi aF.2] b66 b1 b0 (bO K0) F:=by
 unfold j0
 refine ⟨rfl,?_⟩
 refine H.h.new fun b69 K F l q69 h=> ?_
 replace H:=H.up l h
 replace h71:=h71.le l
 replace q63:=l _ _ q63
 replace q66:=l _ _ q66
 exact fd H h71 q63 q66 q69
theorem pS (H:EK K0 K F b0 b1 b2 n) {m71:Sl} (h71:RL K m71 (cG 0).1) {b63:Nat} (q63:K b63=some (.cells #[vi 4] 3)):j5 #[Sl.v n,vi aF.2] #[Sl.v m71,vi (cG 0).2] b63 #[Sl.v n,vi aF.2] b1 b0 (bO K0) F:=by
 unfold j5
 refine ⟨?_,?_⟩
 ·refine H.h.new fun b66 K F l q66 h=> ?_
  replace H:=H.up l h
  replace h71:=h71.le l
  replace q63:=l _ _ q63
  exact pR H h71 q63 q66
 ·refine H.h.new fun b69 K F l q69 h=> ?_
  replace H:=H.up l h
  replace h71:=h71.le l
  replace q63:=l _ _ q63
  exact gZ H h71 q63 q69
theorem yn (H:EK K0 K F b0 b1 b2 n) {m70:Sl} (h70:RL K m70 (dia (tv 0)).1) {b63:Nat} (q63:K b63=some (.cells #[vi 4] 3)):oS #[Sl.v n,vi aF.2] #[Sl.v m70,vi (dia (tv 0)).2] b2 #[Sl.v n,vi aF.2] b63 b1 b0 (bO K0) F:=by
 unfold oS
 refine ⟨?_,?_,?_⟩
 ·refine H.h.new fun b66 K F l q66 h=> ?_
  replace H:=H.up l h
  replace h70:=h70.le l
  replace q63:=l _ _ q63
  exact pQ H h70 q63 q66
 ·refine H.h.new fun b69 K F l q69 h=> ?_
  replace H:=H.up l h
  replace h70:=h70.le l
  replace q63:=l _ _ q63
  exact g0 H h70 q63 q69
 ·refine H.h.run (fun G hl=>ba (x:=0) (by decide) ((DV.mk h70).le hl)) fun _ K F hr l h=> ?_
  replace H:=H.up l h
  replace h70:=h70.le l
  replace q63:=l _ _ q63
  obtain ⟨_,rfl,hw⟩:=hr
  obtain ⟨m71,rfl,h71⟩:=hw.out
  refine ⟨_,rfl,?_⟩
  refine ⟨H.row,?_⟩
  refine ⟨H.row,?_⟩
  exact pS H h71 q63
theorem zZ (H:EK K0 K F b0 b1 b2 n) {b63:Nat} (q63:K b63=some (.cells #[vi 4] 3)):sG #[Sl.v n,vi aF.2] #[Sl.v n,vi aF.2] b2 b63 b1 b0 (bO K0) F:=by
 unfold sG
 refine ⟨rfl,?_⟩
 refine ⟨?_,?_,?_⟩
 ·refine H.h.new fun b66 K F l q66 h=> ?_
  replace H:=H.up l h
  replace q63:=l _ _ q63
  exact zY H q63 q66
 ·refine H.h.new fun b69 K F l q69 h=> ?_
  replace H:=H.up l h
  replace q63:=l _ _ q63
  exact ym H q63 q69
 ·refine H.h.run (fun G _=>aH 0 (by decide) G) fun _ K F hr l h=> ?_
  replace H:=H.up l h
  replace q63:=l _ _ q63
  obtain ⟨_,rfl,hw⟩:=hr
  obtain ⟨m70,rfl,h70⟩:=hw.out
  refine ⟨_,rfl,?_⟩
  refine ⟨H.row,?_⟩
  refine ⟨H.row,?_⟩
  exact yn H h70 q63
theorem yo (H:EK K0 K F b0 b1 b2 n) {b63:Nat} (q63:K b63=some (.cells #[vi 4] 3)) {b66:Nat} (q66:K b66=some (.cells #[vi 1] 3)):oT #[Sl.v n,vi aF.2] b2 #[Sl.v n,vi aF.2] b63 b66 b1 b0 (bO K0) F:=by
 unfold oT
 refine ⟨rfl,?_⟩
 refine ⟨?_,?_⟩
 ·refine H.h.new fun b69 K F l q69 h=> ?_
  replace H:=H.up l h
  replace q63:=l _ _ q63
  replace q66:=l _ _ q66
  exact tn H q63 q66 q69
 ·refine H.h.run (fun G _=>aH 0 (by decide) G) fun _ K F hr l h=> ?_
  replace H:=H.up l h
  replace q63:=l _ _ q63
  replace q66:=l _ _ q66
  obtain ⟨_,rfl,hw⟩:=hr
  obtain ⟨m70,rfl,h70⟩:=hw.out
  refine ⟨_,rfl,?_⟩
  refine ⟨H.row,?_⟩
  refine ⟨H.row,?_⟩
  exact tp H h70 q63 q66
theorem pT (H:EK K0 K F b0 b1 b2 n) {b63:Nat} (q63:K b63=some (.cells #[vi 4] 3)) {b66:Nat} (q66:K b66=some (.cells #[vi 1] 3)) {b69:Nat} (q69:K b69=some (.cells #[vi 0] 3)):j7 #[Sl.v n,vi aF.2] b2 #[Sl.v n,vi aF.2] b63 b66 b69 b1 b0 (bO K0) F:=by
 unfold j7
 refine ⟨rfl,?_⟩
 refine H.h.run (fun G _=>aH 0 (by decide) G) fun _ K F hr l h=> ?_
 replace H:=H.up l h
 replace q63:=l _ _ q63
 replace q66:=l _ _ q66
 replace q69:=l _ _ q69
 obtain ⟨_,rfl,hw⟩:=hr
 obtain ⟨m70,rfl,h70⟩:=hw.out
 refine ⟨_,rfl,?_⟩
 refine ⟨H.row,?_⟩
 refine ⟨H.row,?_⟩
 exact fe H h70 q63 q66 q69
theorem pU (H:EK K0 K F b0 b1 b2 n) {m70:Sl} (h70:RL K m70 (dia (tv 0)).1) {b63:Nat} (q63:K b63=some (.cells #[vi 4] 3)) {b66:Nat} (q66:K b66=some (.cells #[vi 1] 3)) {b69:Nat} (q69:K b69=some (.cells #[vi 0] 3)):j8 #[Sl.v n,vi aF.2] #[Sl.v m70,vi (dia (tv 0)).2] b2 #[Sl.v n,vi aF.2] b63 b66 b69 b1 b0 (bO K0) F:=by
 unfold j8
 refine ⟨rfl,?_⟩
 refine H.h.run (fun G hl=>ba (x:=0) (by decide) ((DV.mk h70).le hl)) fun _ K F hr l h=> ?_
 replace H:=H.up l h
 replace h70:=h70.le l
 replace q63:=l _ _ q63
 replace q66:=l _ _ q66
 replace q69:=l _ _ q69
 obtain ⟨_,rfl,hw⟩:=hr
 obtain ⟨m71,rfl,h71⟩:=hw.out
 refine ⟨_,rfl,?_⟩
 refine ⟨H.row,?_⟩
 refine ⟨H.row,?_⟩
 exact fd H h71 q63 q66 q69
theorem pV (H:EK K0 K F b0 b1 b2 n) {b63:Nat} (q63:K b63=some (.cells #[vi 4] 3)) {b66:Nat} (q66:K b66=some (.cells #[vi 1] 3)) {b69:Nat} (q69:K b69=some (.cells #[vi 0] 3)) {m71:Sl} (h71:RL K m71 (cG 0).1):j9 #[Sl.v n,vi aF.2] b63 b66 #[Sl.v n,vi aF.2] b69 #[Sl.v m71,vi (cG 0).2] b1 b0 (bO K0) F:=by
 unfold j9
 refine ⟨rfl,?_⟩
 refine ⟨rfl,?_⟩
 refine ⟨rfl,?_⟩
 refine ⟨rfl,?_⟩
 refine H.h.new fun b73 K F l q73 h=> ?_
 replace H:=H.up l h
 replace q63:=l _ _ q63
 replace q66:=l _ _ q66
 replace q69:=l _ _ q69
 replace h71:=h71.le l
 exact Gx H ⟨[_,_,_],.cons (df (cE q63) H.n) (.cons (df (cE q66) H.n) (.cons (df (cE q69) h71) .nil)),RdS.new q73 (by kernel_rfl) rfl (Nat.le_refl _)⟩
theorem hD (H:EK K0 K F b0 b1 b2 n) {m71:Sl} (h71:RL K m71 (cG 0).1) {b66:Nat} (q66:K b66=some (.cells #[vi 1] 3)) {b69:Nat} (q69:K b69=some (.cells #[vi 0] 3)):fF #[Sl.v m71,vi (cG 0).2] #[Sl.v n,vi aF.2] b66 #[Sl.v n,vi aF.2] b69 b1 b0 (bO K0) F:=by
 unfold fF
 refine ⟨rfl,?_⟩
 refine H.h.new fun b63 K F l q63 h=> ?_
 replace H:=H.up l h
 replace h71:=h71.le l
 replace q66:=l _ _ q66
 replace q69:=l _ _ q69
 exact pV H q63 q66 q69 h71
theorem hY (H:EK K0 K F b0 b1 b2 n) {m70:Sl} (h70:RL K m70 (dia (tv 0)).1) {b66:Nat} (q66:K b66=some (.cells #[vi 1] 3)) {b69:Nat} (q69:K b69=some (.cells #[vi 0] 3)):fG #[Sl.v n,vi aF.2] #[Sl.v m70,vi (dia (tv 0)).2] b2 #[Sl.v n,vi aF.2] b66 b69 b1 b0 (bO K0) F:=by
 unfold fG
 refine ⟨?_,?_⟩
 ·refine H.h.new fun b63 K F l q63 h=> ?_
  replace H:=H.up l h
  replace h70:=h70.le l
  replace q66:=l _ _ q66
  replace q69:=l _ _ q69
  exact pU H h70 q63 q66 q69
 ·refine H.h.run (fun G hl=>ba (x:=0) (by decide) ((DV.mk h70).le hl)) fun _ K F hr l h=> ?_
  replace H:=H.up l h
  replace h70:=h70.le l
  replace q66:=l _ _ q66
  replace q69:=l _ _ q69
  obtain ⟨_,rfl,hw⟩:=hr
  obtain ⟨m71,rfl,h71⟩:=hw.out
  refine ⟨_,rfl,?_⟩
  refine ⟨H.row,?_⟩
  refine ⟨H.row,?_⟩
  exact hD H h71 q66 q69
theorem yp (H:EK K0 K F b0 b1 b2 n) {b66:Nat} (q66:K b66=some (.cells #[vi 1] 3)) {b69:Nat} (q69:K b69=some (.cells #[vi 0] 3)):oU #[Sl.v n,vi aF.2] b2 #[Sl.v n,vi aF.2] b66 b69 b1 b0 (bO K0) F:=by
 unfold oU
 refine ⟨?_,?_⟩
 ·refine H.h.new fun b63 K F l q63 h=> ?_
  replace H:=H.up l h
  replace q66:=l _ _ q66
  replace q69:=l _ _ q69
  exact pT H q63 q66 q69
 ·refine H.h.run (fun G _=>aH 0 (by decide) G) fun _ K F hr l h=> ?_
  replace H:=H.up l h
  replace q66:=l _ _ q66
  replace q69:=l _ _ q69
  obtain ⟨_,rfl,hw⟩:=hr
  obtain ⟨m70,rfl,h70⟩:=hw.out
  refine ⟨_,rfl,?_⟩
  refine ⟨H.row,?_⟩
  refine ⟨H.row,?_⟩
  exact hY H h70 q66 q69
theorem pW (H:EK K0 K F b0 b1 b2 n) {m70:Sl} (h70:RL K m70 (dia (tv 0)).1) {b63:Nat} (q63:K b63=some (.cells #[vi 4] 3)) {b66:Nat} (q66:K b66=some (.cells #[vi 1] 3)):kc #[Sl.v n,vi aF.2] #[Sl.v m70,vi (dia (tv 0)).2] b2 #[Sl.v n,vi aF.2] b63 b66 b1 b0 (bO K0) F:=by
 unfold kc
 refine ⟨rfl,?_⟩
 refine ⟨?_,?_⟩
 ·refine H.h.new fun b69 K F l q69 h=> ?_
  replace H:=H.up l h
  replace h70:=h70.le l
  replace q63:=l _ _ q63
  replace q66:=l _ _ q66
  exact fe H h70 q63 q66 q69
 ·refine H.h.run (fun G hl=>ba (x:=0) (by decide) ((DV.mk h70).le hl)) fun _ K F hr l h=> ?_
  replace H:=H.up l h
  replace h70:=h70.le l
  replace q63:=l _ _ q63
  replace q66:=l _ _ q66
  obtain ⟨_,rfl,hw⟩:=hr
  obtain ⟨m71,rfl,h71⟩:=hw.out
  refine ⟨_,rfl,?_⟩
  refine ⟨H.row,?_⟩
  refine ⟨H.row,?_⟩
  exact nc H h71 q63 q66
theorem pX (H:EK K0 K F b0 b1 b2 n) {m71:Sl} (h71:RL K m71 (cG 0).1) {b63:Nat} (q63:K b63=some (.cells #[vi 4] 3)) {b66:Nat} (q66:K b66=some (.cells #[vi 1] 3)):ke #[Sl.v n,vi aF.2] #[Sl.v m71,vi (cG 0).2] b63 b66 #[Sl.v n,vi aF.2] b1 b0 (bO K0) F:=by
 unfold ke
 refine ⟨rfl,?_⟩
 refine H.h.new fun b69 K F l q69 h=> ?_
 replace H:=H.up l h
 replace h71:=h71.le l
 replace q63:=l _ _ q63
 replace q66:=l _ _ q66
 exact fd H h71 q63 q66 q69
theorem pY (H:EK K0 K F b0 b1 b2 n) {m71:Sl} (h71:RL K m71 (cG 0).1) {b66:Nat} (q66:K b66=some (.cells #[vi 1] 3)):kf #[Sl.v n,vi aF.2] #[Sl.v m71,vi (cG 0).2] b66 #[Sl.v n,vi aF.2] b1 b0 (bO K0) F:=by
 unfold kf
 refine ⟨?_,?_⟩
 ·refine H.h.new fun b63 K F l q63 h=> ?_
  replace H:=H.up l h
  replace h71:=h71.le l
  replace q66:=l _ _ q66
  exact pX H h71 q63 q66
 ·refine H.h.new fun b69 K F l q69 h=> ?_
  replace H:=H.up l h
  replace h71:=h71.le l
  replace q66:=l _ _ q66
  exact hD H h71 q66 q69
theorem yq (H:EK K0 K F b0 b1 b2 n) {m70:Sl} (h70:RL K m70 (dia (tv 0)).1) {b66:Nat} (q66:K b66=some (.cells #[vi 1] 3)):oV #[Sl.v n,vi aF.2] #[Sl.v m70,vi (dia (tv 0)).2] b2 #[Sl.v n,vi aF.2] b66 b1 b0 (bO K0) F:=by
 unfold oV
 refine ⟨?_,?_,?_⟩
 ·refine H.h.new fun b63 K F l q63 h=> ?_
  replace H:=H.up l h
  replace h70:=h70.le l
  replace q66:=l _ _ q66
  exact pW H h70 q63 q66
 ·refine H.h.new fun b69 K F l q69 h=> ?_
  replace H:=H.up l h
  replace h70:=h70.le l
  replace q66:=l _ _ q66
  exact hY H h70 q66 q69
 ·refine H.h.run (fun G hl=>ba (x:=0) (by decide) ((DV.mk h70).le hl)) fun _ K F hr l h=> ?_
  replace H:=H.up l h
  replace h70:=h70.le l
  replace q66:=l _ _ q66
  obtain ⟨_,rfl,hw⟩:=hr
  obtain ⟨m71,rfl,h71⟩:=hw.out
  refine ⟨_,rfl,?_⟩
  refine ⟨H.row,?_⟩
  refine ⟨H.row,?_⟩
  exact pY H h71 q66
theorem yr (H:EK K0 K F b0 b1 b2 n) {b66:Nat} (q66:K b66=some (.cells #[vi 1] 3)):oW #[Sl.v n,vi aF.2] #[Sl.v n,vi aF.2] b2 b66 b1 b0 (bO K0) F:=by
 unfold oW
 refine ⟨rfl,?_⟩
 refine ⟨?_,?_,?_⟩
 ·refine H.h.new fun b63 K F l q63 h=> ?_
  replace H:=H.up l h
  replace q66:=l _ _ q66
  exact yo H q63 q66
 ·refine H.h.new fun b69 K F l q69 h=> ?_
  replace H:=H.up l h
  replace q66:=l _ _ q66
  exact yp H q66 q69
 ·refine H.h.run (fun G _=>aH 0 (by decide) G) fun _ K F hr l h=> ?_
  replace H:=H.up l h
  replace q66:=l _ _ q66
  obtain ⟨_,rfl,hw⟩:=hr
  obtain ⟨m70,rfl,h70⟩:=hw.out
  refine ⟨_,rfl,?_⟩
  refine ⟨H.row,?_⟩
  refine ⟨H.row,?_⟩
  exact yq H h70 q66
theorem yt (H:EK K0 K F b0 b1 b2 n) {b63:Nat} (q63:K b63=some (.cells #[vi 4] 3)) {b69:Nat} (q69:K b69=some (.cells #[vi 0] 3)):oX #[Sl.v n,vi aF.2] #[Sl.v n,vi aF.2] b2 b63 b69 b1 b0 (bO K0) F:=by
 unfold oX
 refine ⟨rfl,?_⟩
 refine ⟨?_,?_⟩
 ·refine H.h.new fun b66 K F l q66 h=> ?_
  replace H:=H.up l h
  replace q63:=l _ _ q63
  replace q69:=l _ _ q69
  exact pN H q63 q66 q69
 ·refine H.h.run (fun G _=>aH 0 (by decide) G) fun _ K F hr l h=> ?_
  replace H:=H.up l h
  replace q63:=l _ _ q63
  replace q69:=l _ _ q69
  obtain ⟨_,rfl,hw⟩:=hr
  obtain ⟨m70,rfl,h70⟩:=hw.out
  refine ⟨_,rfl,?_⟩
  refine ⟨H.row,?_⟩
  refine ⟨H.row,?_⟩
  exact g0 H h70 q63 q69
theorem yu (H:EK K0 K F b0 b1 b2 n) {b66:Nat} (q66:K b66=some (.cells #[vi 1] 3)) {b69:Nat} (q69:K b69=some (.cells #[vi 0] 3)):oY #[Sl.v n,vi aF.2] #[Sl.v n,vi aF.2] b2 b66 b69 b1 b0 (bO K0) F:=by
 unfold oY
 refine ⟨rfl,?_⟩
 refine ⟨?_,?_⟩
 ·refine H.h.new fun b63 K F l q63 h=> ?_
  replace H:=H.up l h
  replace q66:=l _ _ q66
  replace q69:=l _ _ q69
  exact pT H q63 q66 q69
 ·refine H.h.run (fun G _=>aH 0 (by decide) G) fun _ K F hr l h=> ?_
  replace H:=H.up l h
  replace q66:=l _ _ q66
  replace q69:=l _ _ q69
  obtain ⟨_,rfl,hw⟩:=hr
  obtain ⟨m70,rfl,h70⟩:=hw.out
  refine ⟨_,rfl,?_⟩
  refine ⟨H.row,?_⟩
  refine ⟨H.row,?_⟩
  exact hY H h70 q66 q69
theorem yv (H:EK K0 K F b0 b1 b2 n) {m70:Sl} (h70:RL K m70 (dia (tv 0)).1) {b63:Nat} (q63:K b63=some (.cells #[vi 4] 3)) {b69:Nat} (q69:K b69=some (.cells #[vi 0] 3)):oZ #[Sl.v n,vi aF.2] #[Sl.v n,vi aF.2] #[Sl.v m70,vi (dia (tv 0)).2] b2 b63 b69 b1 b0 (bO K0) F:=by
 unfold oZ
 refine ⟨rfl,?_⟩
 refine ⟨?_,?_⟩
 ·refine H.h.new fun b66 K F l q66 h=> ?_
  replace H:=H.up l h
  replace h70:=h70.le l
  replace q63:=l _ _ q63
  replace q69:=l _ _ q69
  exact pO H h70 q63 q66 q69
 ·refine H.h.run (fun G hl=>ba (x:=0) (by decide) ((DV.mk h70).le hl)) fun _ K F hr l h=> ?_
  replace H:=H.up l h
  replace h70:=h70.le l
  replace q63:=l _ _ q63
  replace q69:=l _ _ q69
  obtain ⟨_,rfl,hw⟩:=hr
  obtain ⟨m71,rfl,h71⟩:=hw.out
  refine ⟨_,rfl,?_⟩
  refine ⟨H.row,?_⟩
  refine ⟨H.row,?_⟩
  exact gZ H h71 q63 q69
theorem yw (H:EK K0 K F b0 b1 b2 n) {m70:Sl} (h70:RL K m70 (dia (tv 0)).1) {b66:Nat} (q66:K b66=some (.cells #[vi 1] 3)) {b69:Nat} (q69:K b69=some (.cells #[vi 0] 3)):o8 #[Sl.v n,vi aF.2] #[Sl.v n,vi aF.2] #[Sl.v m70,vi (dia (tv 0)).2] b2 b66 b69 b1 b0 (bO K0) F:=by
 unfold o8
 refine ⟨rfl,?_⟩
 refine ⟨?_,?_⟩
 ·refine H.h.new fun b63 K F l q63 h=> ?_
  replace H:=H.up l h
  replace h70:=h70.le l
  replace q66:=l _ _ q66
  replace q69:=l _ _ q69
  exact pU H h70 q63 q66 q69
 ·refine H.h.run (fun G hl=>ba (x:=0) (by decide) ((DV.mk h70).le hl)) fun _ K F hr l h=> ?_
  replace H:=H.up l h
  replace h70:=h70.le l
  replace q66:=l _ _ q66
  replace q69:=l _ _ q69
  obtain ⟨_,rfl,hw⟩:=hr
  obtain ⟨m71,rfl,h71⟩:=hw.out
  refine ⟨_,rfl,?_⟩
  refine ⟨H.row,?_⟩
  refine ⟨H.row,?_⟩
  exact hD H h71 q66 q69
theorem yx (H:EK K0 K F b0 b1 b2 n) {b63:Nat} (q63:K b63=some (.cells #[vi 4] 3)) {b69:Nat} (q69:K b69=some (.cells #[vi 0] 3)) {m71:Sl} (h71:RL K m71 (cG 0).1):o9 #[Sl.v n,vi aF.2] #[Sl.v n,vi aF.2] b63 b69 #[Sl.v m71,vi (cG 0).2] b1 b0 (bO K0) F:=by
 unfold o9
 refine ⟨rfl,?_⟩
 refine H.h.new fun b66 K F l q66 h=> ?_
 replace H:=H.up l h
 replace q63:=l _ _ q63
 replace q69:=l _ _ q69
 replace h71:=h71.le l
 exact pP H q63 q66 q69 h71
theorem yy (H:EK K0 K F b0 b1 b2 n) {b66:Nat} (q66:K b66=some (.cells #[vi 1] 3)) {b69:Nat} (q69:K b69=some (.cells #[vi 0] 3)) {m71:Sl} (h71:RL K m71 (cG 0).1):pd #[Sl.v n,vi aF.2] #[Sl.v n,vi aF.2] b66 b69 #[Sl.v m71,vi (cG 0).2] b1 b0 (bO K0) F:=by
 unfold pd
 refine ⟨rfl,?_⟩
 refine H.h.new fun b63 K F l q63 h=> ?_
 replace H:=H.up l h
 replace q66:=l _ _ q66
 replace q69:=l _ _ q69
 replace h71:=h71.le l
 exact pV H q63 q66 q69 h71
theorem pZ (H:EK K0 K F b0 b1 b2 n) {m71:Sl} (h71:RL K m71 (cG 0).1) {b69:Nat} (q69:K b69=some (.cells #[vi 0] 3)):kg #[Sl.v m71,vi (cG 0).2] #[Sl.v n,vi aF.2] #[Sl.v n,vi aF.2] b69 b1 b0 (bO K0) F:=by
 unfold kg
 refine ⟨rfl,?_⟩
 refine ⟨?_,?_⟩
 ·refine H.h.new fun b63 K F l q63 h=> ?_
  replace H:=H.up l h
  replace h71:=h71.le l
  replace q69:=l _ _ q69
  exact yx H q63 q69 h71
 ·refine H.h.new fun b66 K F l q66 h=> ?_
  replace H:=H.up l h
  replace h71:=h71.le l
  replace q69:=l _ _ q69
  exact yy H q66 q69 h71
theorem p9 (H:EK K0 K F b0 b1 b2 n) {m70:Sl} (h70:RL K m70 (dia (tv 0)).1) {b69:Nat} (q69:K b69=some (.cells #[vi 0] 3)):ki #[Sl.v n,vi aF.2] #[Sl.v n,vi aF.2] #[Sl.v m70,vi (dia (tv 0)).2] b2 b69 b1 b0 (bO K0) F:=by
 unfold ki
 refine ⟨?_,?_,?_⟩
 ·refine H.h.new fun b63 K F l q63 h=> ?_
  replace H:=H.up l h
  replace h70:=h70.le l
  replace q69:=l _ _ q69
  exact yv H h70 q63 q69
 ·refine H.h.new fun b66 K F l q66 h=> ?_
  replace H:=H.up l h
  replace h70:=h70.le l
  replace q69:=l _ _ q69
  exact yw H h70 q66 q69
 ·refine H.h.run (fun G hl=>ba (x:=0) (by decide) ((DV.mk h70).le hl)) fun _ K F hr l h=> ?_
  replace H:=H.up l h
  replace h70:=h70.le l
  replace q69:=l _ _ q69
  obtain ⟨_,rfl,hw⟩:=hr
  obtain ⟨m71,rfl,h71⟩:=hw.out
  refine ⟨_,rfl,?_⟩
  refine ⟨H.row,?_⟩
  refine ⟨H.row,?_⟩
  exact pZ H h71 q69
theorem yz (H:EK K0 K F b0 b1 b2 n) {b69:Nat} (q69:K b69=some (.cells #[vi 0] 3)):pe #[Sl.v n,vi aF.2] #[Sl.v n,vi aF.2] b2 b69 b1 b0 (bO K0) F:=by
 unfold pe
 refine ⟨?_,?_,?_⟩
 ·refine H.h.new fun b63 K F l q63 h=> ?_
  replace H:=H.up l h
  replace q69:=l _ _ q69
  exact yt H q63 q69
 ·refine H.h.new fun b66 K F l q66 h=> ?_
  replace H:=H.up l h
  replace q69:=l _ _ q69
  exact yu H q66 q69
 ·refine H.h.run (fun G _=>aH 0 (by decide) G) fun _ K F hr l h=> ?_
  replace H:=H.up l h
  replace q69:=l _ _ q69
  obtain ⟨_,rfl,hw⟩:=hr
  obtain ⟨m70,rfl,h70⟩:=hw.out
  refine ⟨_,rfl,?_⟩
  refine ⟨H.row,?_⟩
  refine ⟨H.row,?_⟩
  exact p9 H h70 q69
theorem yA (H:EK K0 K F b0 b1 b2 n) {m70:Sl} (h70:RL K m70 (dia (tv 0)).1) {b63:Nat} (q63:K b63=some (.cells #[vi 4] 3)):pf #[Sl.v n,vi aF.2] #[Sl.v n,vi aF.2] #[Sl.v m70,vi (dia (tv 0)).2] b2 b63 b1 b0 (bO K0) F:=by
 unfold pf
 refine ⟨rfl,?_⟩
 refine ⟨?_,?_,?_⟩
 ·refine H.h.new fun b66 K F l q66 h=> ?_
  replace H:=H.up l h
  replace h70:=h70.le l
  replace q63:=l _ _ q63
  exact pQ H h70 q63 q66
 ·refine H.h.new fun b69 K F l q69 h=> ?_
  replace H:=H.up l h
  replace h70:=h70.le l
  replace q63:=l _ _ q63
  exact g0 H h70 q63 q69
 ·refine H.h.run (fun G hl=>ba (x:=0) (by decide) ((DV.mk h70).le hl)) fun _ K F hr l h=> ?_
  replace H:=H.up l h
  replace h70:=h70.le l
  replace q63:=l _ _ q63
  obtain ⟨_,rfl,hw⟩:=hr
  obtain ⟨m71,rfl,h71⟩:=hw.out
  refine ⟨_,rfl,?_⟩
  refine ⟨H.row,?_⟩
  refine ⟨H.row,?_⟩
  exact pS H h71 q63
theorem yB (H:EK K0 K F b0 b1 b2 n) {m70:Sl} (h70:RL K m70 (dia (tv 0)).1) {b66:Nat} (q66:K b66=some (.cells #[vi 1] 3)):pg #[Sl.v n,vi aF.2] #[Sl.v n,vi aF.2] #[Sl.v m70,vi (dia (tv 0)).2] b2 b66 b1 b0 (bO K0) F:=by
 unfold pg
 refine ⟨rfl,?_⟩
 refine ⟨?_,?_,?_⟩
 ·refine H.h.new fun b63 K F l q63 h=> ?_
  replace H:=H.up l h
  replace h70:=h70.le l
  replace q66:=l _ _ q66
  exact pW H h70 q63 q66
 ·refine H.h.new fun b69 K F l q69 h=> ?_
  replace H:=H.up l h
  replace h70:=h70.le l
  replace q66:=l _ _ q66
  exact hY H h70 q66 q69
 ·refine H.h.run (fun G hl=>ba (x:=0) (by decide) ((DV.mk h70).le hl)) fun _ K F hr l h=> ?_
  replace H:=H.up l h
  replace h70:=h70.le l
  replace q66:=l _ _ q66
  obtain ⟨_,rfl,hw⟩:=hr
  obtain ⟨m71,rfl,h71⟩:=hw.out
  refine ⟨_,rfl,?_⟩
  refine ⟨H.row,?_⟩
  refine ⟨H.row,?_⟩
  exact pY H h71 q66
theorem yC (H:EK K0 K F b0 b1 b2 n) {m71:Sl} (h71:RL K m71 (cG 0).1) {b63:Nat} (q63:K b63=some (.cells #[vi 4] 3)):ph #[Sl.v n,vi aF.2] #[Sl.v n,vi aF.2] #[Sl.v m71,vi (cG 0).2] b63 b1 b0 (bO K0) F:=by
 unfold ph
 refine ⟨rfl,?_⟩
 refine ⟨?_,?_⟩
 ·refine H.h.new fun b66 K F l q66 h=> ?_
  replace H:=H.up l h
  replace h71:=h71.le l
  replace q63:=l _ _ q63
  exact pR H h71 q63 q66
 ·refine H.h.new fun b69 K F l q69 h=> ?_
  replace H:=H.up l h
  replace h71:=h71.le l
  replace q63:=l _ _ q63
  exact gZ H h71 q63 q69
theorem yD (H:EK K0 K F b0 b1 b2 n) {m71:Sl} (h71:RL K m71 (cG 0).1) {b66:Nat} (q66:K b66=some (.cells #[vi 1] 3)):pj #[Sl.v n,vi aF.2] #[Sl.v n,vi aF.2] #[Sl.v m71,vi (cG 0).2] b66 b1 b0 (bO K0) F:=by
 unfold pj
 refine ⟨rfl,?_⟩
 refine ⟨?_,?_⟩
 ·refine H.h.new fun b63 K F l q63 h=> ?_
  replace H:=H.up l h
  replace h71:=h71.le l
  replace q66:=l _ _ q66
  exact pX H h71 q63 q66
 ·refine H.h.new fun b69 K F l q69 h=> ?_
  replace H:=H.up l h
  replace h71:=h71.le l
  replace q66:=l _ _ q66
  exact hD H h71 q66 q69
theorem yF (H:EK K0 K F b0 b1 b2 n) {m71:Sl} (h71:RL K m71 (cG 0).1):pk #[Sl.v n,vi aF.2] #[Sl.v n,vi aF.2] #[Sl.v m71,vi (cG 0).2] b1 b0 (bO K0) F:=by
 unfold pk
 refine ⟨?_,?_,?_⟩
 ·refine H.h.new fun b63 K F l q63 h=> ?_
  replace H:=H.up l h
  replace h71:=h71.le l
  exact yC H h71 q63
 ·refine H.h.new fun b66 K F l q66 h=> ?_
  replace H:=H.up l h
  replace h71:=h71.le l
  exact yD H h71 q66
 ·refine H.h.new fun b69 K F l q69 h=> ?_
  replace H:=H.up l h
  replace h71:=h71.le l
  exact pZ H h71 q69
theorem yG (H:EK K0 K F b0 b1 b2 n) {m70:Sl} (h70:RL K m70 (dia (tv 0)).1):pm #[Sl.v n,vi aF.2] #[Sl.v n,vi aF.2] #[Sl.v m70,vi (dia (tv 0)).2] b2 b1 b0 (bO K0) F:=by
 unfold pm
 refine ⟨?_,?_,?_,?_⟩
 ·refine H.h.new fun b63 K F l q63 h=> ?_
  replace H:=H.up l h
  replace h70:=h70.le l
  exact yA H h70 q63
 ·refine H.h.new fun b66 K F l q66 h=> ?_
  replace H:=H.up l h
  replace h70:=h70.le l
  exact yB H h70 q66
 ·refine H.h.new fun b69 K F l q69 h=> ?_
  replace H:=H.up l h
  replace h70:=h70.le l
  exact p9 H h70 q69
 ·refine H.h.run (fun G hl=>ba (x:=0) (by decide) ((DV.mk h70).le hl)) fun _ K F hr l h=> ?_
  replace H:=H.up l h
  replace h70:=h70.le l
  obtain ⟨_,rfl,hw⟩:=hr
  obtain ⟨m71,rfl,h71⟩:=hw.out
  refine ⟨_,rfl,?_⟩
  refine ⟨H.row,?_⟩
  refine ⟨H.row,?_⟩
  exact yF H h71
end
theorem kv (F:PH):ae prog 107 #[] F fun r F'=>(∃w,r=.agg w∧GV F' w cO)∧F.le F':=by
 refine Mn ?_
 unfold FR
 refine fg F [⟨#[69]⟩] rfl rfl fun b0 b1 F1 h=> ?_
 refine h.allv fun b2 K1 F2 n l1 q hn h=> ?_
 refine h.rule3 (dv 0) (ca 1) (dv 0) (by decide) fun F2 h=> ?_
 refine h.rule3 (dv 0) (ca 2) (dv 0) (by decide) fun F2 h=> ?_
 refine h.rule3 (ca 3) (dv 0) (ca 4) (by decide) fun F2 h=> ?_
 refine h.rule1 (ca 0) (by decide) fun F2 h=> ?_
 refine h.rule3 (dv 0) (ca 8) (dv 0) (by decide) fun F2 h=> ?_
 refine h.brk 2 rfl fun F2 h=> ?_
 refine h.cnd 4 rfl 1 (by decide) fun F2 h=> ?_
 refine ⟨_,rfl,aj (h.le _ _ q),_,rfl,aj (h.le _ _ q),?_⟩
 have H:EK F _ _ b0 b1 b2 n:=⟨h,l1,q,hn⟩
 refine ⟨?_,?_,?_,?_⟩
 ·refine H.h.new fun b63 K F l q63 h=> ?_
  replace H:=H.up l h
  exact zZ H q63
 ·refine H.h.new fun b66 K F l q66 h=> ?_
  replace H:=H.up l h
  exact yr H q66
 ·refine H.h.new fun b69 K F l q69 h=> ?_
  replace H:=H.up l h
  exact yz H q69
 ·refine H.h.run (fun G _=>aH 0 (by decide) G) fun _ K F hr l h=> ?_
  replace H:=H.up l h
  obtain ⟨_,rfl,hw⟩:=hr
  obtain ⟨m70,rfl,h70⟩:=hw.out
  refine ⟨_,rfl,?_⟩
  refine ⟨H.row,?_⟩
  refine ⟨H.row,?_⟩
  exact yG H h70
noncomputable def bP (k:Nat):Gr:=if k=0 then cO else if k=1 then cf else if k=2 then dP else if k=3 then lN else if k=4 then jo else jp
theorem uB (k:Nat) (F:PH):ae prog 37 #[.int .u8 (k:Int)] F fun r F'=>(∃w,r=.agg w∧GV F' w (bP (k % 6)))∧F.le F':=by
 refine Og ?_
 unfold Mg
 refine (St.start F).new fun b F1 h=> ?_
 have e:Int.tmod (k:Int) 6=((k % 6:Nat):Int):=by rw [Int.tmod_eq_emod_of_nonneg (by omega)];omega
 rw [e]
 have hk:k % 6<6:=Nat.mod_lt _ (by decide)
 generalize k % 6=j at*
 have fin:∀{v:Value} {G F1:PH},F.le G→(∃w,v=Value.agg w∧GV G w (bP j))→St G F1 [pt b (.cells zG 39)]→∃w:Array Value,v=Value.agg w∧az F1 (Addr.mk b 0 none) 9 w fun F2=>∃w:Array Value,w.size=9∧F2.row (Addr.mk b 0 none) w∧((∃w',Value.agg w=Value.agg w'∧GV F2 w' (bP j))∧F.le F2):=fun {v G F1} hl hv h=>by
  obtain ⟨w,rfl,hv⟩:=hv
  exact ⟨w,rfl,h.put0 (w':=w) hv.size rfl hv.st fun F2 h=>⟨w,hv.size,h.whole0,⟨w,rfl,hv.le h.le⟩,aa hl h.le⟩⟩
 refine ⟨fun h0=> ?_,fun h0=>⟨fun h1=> ?_,fun h1=>⟨fun h2=> ?_,fun h2=>⟨fun h3=> ?_,fun h3=>⟨fun h4=> ?_,fun h4=> ?_⟩⟩⟩⟩⟩
 ·obtain rfl:j=0:=by omega
  exact h.run (kv _) fun _ G F2 hr l h=>fin l hr h
 ·obtain rfl:j=1:=by omega
  exact h.run (lz _) fun _ G F2 hr l h=>fin l hr h
 ·obtain rfl:j=2:=by omega
  exact h.run (jq _) fun _ G F2 hr l h=>fin l hr h
 ·obtain rfl:j=3:=by omega
  exact h.run (tq _) fun _ G F2 hr l h=>fin l hr h
 ·obtain rfl:j=4:=by omega
  exact h.run (rb _) fun _ G F2 hr l h=>fin l hr h
 ·obtain rfl:j=5:=by omega
  exact h.run (ri _) fun _ G F2 hr l h=>fin l hr h
end Go.Proofs.YtenpmjhnhepfdaaGreatDoor
