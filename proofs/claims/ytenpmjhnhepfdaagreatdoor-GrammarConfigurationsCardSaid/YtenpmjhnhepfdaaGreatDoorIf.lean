/-
  Known grammars with levels and filters; all of them. Printed by a program (mkIf.py).
-/
import Derived.Test.YtenpmjhnhepfdaaGreatDoorIe
namespace Go.Proofs.YtenpmjhnhepfdaaGreatDoor
open Go Go.Proofs.Tryz Tr
set_option maxRecDepth 10000
theorem dp {F:PH} {b:Nat} {e:TypeId} {x:Int} (q:F b=some (.cells #[vi x] e)):RL F (Sl.mk (some (Addr.mk b 0 none)) 1 1) [x]:=RL.ints.2 (RdS.new q rfl rfl (Nat.le_refl _))
theorem lR {F:PH} {x:Fi} {t n:Sl} (ht:RL F t x.toks) (hn:RL F n x.cond.1):Mem.rep F x (x.arr t n):=⟨t,n,rfl,ht,hn⟩
theorem dz {F:PH} {x:Lv} {p n:Sl} (hp:RL F p x.ps) (hn:RL F n x.cond.1):Mem.rep F x (x.arr p n):=⟨p,n,rfl,hp,hn⟩
theorem rj (F:PH):ac prog 111 #[] F fun r F'=>(∃w,r=.agg w∧GV F' w jq)∧F.le F':=by
 refine Nn ?_
 unfold GF
 refine fo F [⟨#[83]⟩,⟨#[87]⟩,⟨#[86]⟩] rfl rfl fun b0 b1 F1 h=> ?_
 refine h.rule2 (dw 1) (dw 2) (by decide) fun F2 h=> ?_
 refine h.rule1 (ca 0) (by decide) fun F2 h=> ?_
 refine h.rule2 (ca 0) (ca 0) (by decide) fun F2 h=> ?_
 refine h.rule0 (by decide) fun F2 h=> ?_
 refine h.rule2 (ca 0) (dw 2) (by decide) fun F2 h=> ?_
 refine h.rule2 (ca 1) (dw 2) (by decide) fun F2 h=> ?_
 refine h.rank 1 rfl fun F2 h=> ?_
 refine h.cnd 5 rfl 1 (by decide) fun F2 h=> ?_
 refine h.new fun b64 K3 F3 l3 q64 h=> ?_
 refine h.run (fun G _=>aH 0 (by decide) G) fun _ K4 F4 hr l4 h=> ?_
 obtain ⟨_,rfl,hw⟩:=hr
 obtain ⟨m,rfl,hm⟩:=hw.out
 refine ⟨_,rfl,rfl,?_⟩
 refine h.new fun b67 K5 F5 l5 q67 h=> ?_
 refine h.run (fun G _=>aH 1 (by decide) G) fun _ K6 F6 hr l6 h=> ?_
 obtain ⟨_,rfl,hv⟩:=hr
 refine ⟨_,rfl,?_⟩
 refine h.run (fun G hl=>ba (by decide) (hv.le hl)) fun _ K7 F7 hr l7 h=> ?_
 obtain ⟨_,rfl,hw⟩:=hr
 obtain ⟨m',rfl,hm'⟩:=hw.out
 refine ⟨_,rfl,rfl,rfl,rfl,?_⟩
 refine h.new fun b71 K8 F8 l8 q71 h=> ?_
 have l58:=aa l6 (aa l7 l8)
 have l48:=aa l5 l58
 refine h.fils (x:=[⟨3,0,0,0,1,0,[0],dia (tv 0)⟩,⟨4,0,0,0,2,0,[1],cE 1⟩]) ⟨[_,_],.cons (lR (dp (l48 _ _ (l4 _ _ q64))) (hm.le l48)) (.cons (lR (dp (l58 _ _ q67)) (hm'.le l8)) .nil),RdS.new q71 (by kernel_rfl) rfl (Nat.le_refl _)⟩ fun F9 h=> ?_
 exact h.fin (R:=fun r F'=>(∃w,r=.agg w∧GV F' w jq)∧F.le F') fun w F' hv hl=>⟨⟨w,rfl,hv⟩,aa l3 (aa l4 (aa l48 hl))⟩
noncomputable def rk:Gr:={(dC [⟨#[83]⟩,⟨#[67]⟩]) with prods:=ci.prods}
theorem wL {K F F0:PH} {b0 b1 b61 b64:Nat} {g:Gr} {c n t s sp l m v:Sl} {vs:List (Array Value)} (hF:F0.le K) (hg:{g with fils:=[⟨2,0,2,1,0,0,[],dia (tv 0)⟩,⟨5,0,0,0,0,0,[5,6],dia (tv 1)⟩]}=ci)
  (st:St K F [pt b64 (.cells (wr (wr (#[.int .i64 0,.int .i64 0,.int .i64 0,.int .i64 0,.int .i64 0,.int .i64 0,.slice none 0 0,.slice none 0 0,.int .i64 0,.int .i64 0,.int .i64 0,.int .i64 0,.int .i64 0,.int .i64 0,.int .i64 0,.slice none 0 0,.slice none 0 0,.int .i64 0]:Array Value) 0 (wr (Array.setIfInBounds (Array.setIfInBounds (Array.setIfInBounds (#[.int .i64 0,.int .i64 0,.int .i64 0,.int .i64 0,.int .i64 0,.int .i64 0,.slice none 0 0,.slice none 0 0,.int .i64 0]:Array Value) 0 (vi 2)) 2 (vi 2)) 3 (vi 1)) 7 (#[m.v,vi (dia (tv 0)).2]:Array Value).toList).toList) 9 (wr (Array.setIfInBounds (Array.setIfInBounds (#[.int .i64 0,.int .i64 0,.int .i64 0,.int .i64 0,.int .i64 0,.int .i64 0,.slice none 0 0,.slice none 0 0,.int .i64 0]:Array Value) 0 (vi 5)) 6 (Sl.v (Sl.mk (some (Addr.mk b61 0 none)) 2 2))) 7 (#[v.v,vi aF.2]:Array Value).toList).toList) 74),pt b1 (.cells (g.arr c n t s sp l (Sl.mk (some (Addr.mk b64 0 none)) 2 2)) 39),own sp 67 13 (cat vs),pt b0 (.cells zG 39)])
  (hr:cJ K g.prods vs) (hc:RL K c g.conds) (hn:RL K n g.fam.1) (ht:RL K t g.toks) (hs:RL K s g.nons) (hl:RL K l g.lvs) (hm:RL K m (dia (tv 0)).1) (q61:RL K (Sl.mk (some (Addr.mk b61 0 none)) 2 2) [(5:Int),6]):
  mN b0 b1 (fun r F'=>(∃w,r=.agg w∧GV F' w ci)∧F0.le F') F:=by
 unfold mN
 refine ⟨_,st.ld1 rfl,?_⟩
 refine st.run (aH 1 (by decide) _) fun _ K1 F1 hr1 l1 st=> ?_
 obtain ⟨_,rfl,hw⟩:=hr1
 obtain ⟨m1,rfl,hm1⟩:=hw.out
 refine ⟨_,rfl,st.ld1 rfl,_,rfl,by decide,(by show (1:Int)<2;decide),?_⟩
 simp only [aJ]
 refine st.putR0 (o:=16) (w':= #[vi 2,vi 0,vi 2,vi 1,vi 0,vi 0,Sl.v Sl.nil,m.v,vi (dia (tv 0)).2,vi 5,vi 0,vi 0,vi 0,vi 0,vi 0,Sl.v (Sl.mk (some (Addr.mk b61 0 none)) 2 2),m1.v,vi (dia (tv 1)).2]) rfl (by simp [aj,Sl.v]) (by rw [dm,dm];show 16+2≤18;decide) (by kernel_rfl) fun F2 st=> ?_
 obtain ⟨K2,l2,⟨H,hA,hH⟩,st⟩:=st.pin
 have q:=hH _ _ hA
 have l12:=aa l1 l2
 have hf:RL K2 (Sl.mk (some (Addr.mk b64 0 none)) 2 2) [(⟨2,0,2,1,0,0,[],dia (tv 0)⟩:Fi),⟨5,0,0,0,0,0,[5,6],dia (tv 1)⟩]:=
  ⟨[_,_],.cons (lR (t:=Sl.nil) (.nil _) (hm.le l12)) (.cons (lR (q61.le l12) (hm1.le l2)) .nil),RdS.new q (by kernel_rfl) rfl (Nat.le_refl _)⟩
 have h:KS K2 F2 b0 b1 ci:=by
  rw [← hg]
  exact ⟨K2,c,n,t,s,sp,l,_,vs,le_refl' _,st,hr.le l12,hc.le l12,hn.le l12,ht.le l12,hs.le l12,hl.le l12,hf⟩
 exact h.fin (R:=fun r F'=>(∃w,r=.agg w∧GV F' w ci)∧F0.le F') fun w F' hv hl=>⟨⟨w,rfl,hv⟩,aa hF (aa l12 hl)⟩
theorem lH (F:PH):ac prog 108 #[] F fun r F'=>(∃w,r=.agg w∧GV F' w ci)∧F.le F':=by
 refine Nk ?_
 unfold GC
 refine fo F [⟨#[83]⟩,⟨#[67]⟩] rfl rfl fun b0 b1 F1 h=> ?_
 refine h.allv fun b2 K1 F2 n l1 q hn h=> ?_
 refine h.rule5 (ca 5) (dw 1) (dw 0) (ca 6) (dw 0) (by decide) fun F2 h=> ?_
 refine h.rule3 (ca 5) (dw 1) (dw 0) (by decide) fun F2 h=> ?_
 refine h.rule2 (dw 1) (ca 7) (by decide) fun F2 h=> ?_
 refine h.rule3 (ca 3) (dw 0) (ca 4) (by decide) fun F2 h=> ?_
 refine h.rule1 (ca 0) (by decide) fun F2 h=> ?_
 refine h.brk 3 rfl fun F2 h=> ?_
 refine ⟨_,rfl,ai (h.le _ _ q),?_⟩
 obtain ⟨G,c,n',t,s,sp,l,f,vs,h⟩:=h
 have hn:=hn.le h.k
 have l1:=aa l1 h.k
 refine ⟨?_,?_⟩
 ·refine h.st.run (aH 0 (by decide) _) fun _ K4 F4 hr l4 st=> ?_
  obtain ⟨_,rfl,hw⟩:=hr
  obtain ⟨m,rfl,hm⟩:=hw.out
  refine ⟨_,rfl,ai (st.le _ _ (l4 _ _ (h.k _ _ q))),rfl,?_⟩
  refine st.newG fun b61 K5 F5 l5 q61 _ st=> ?_
  refine ⟨rfl,rfl,rfl,?_⟩
  refine st.new fun b64 F6 st=> ?_
  refine st.set1 (w':=(rk.arr c n' t s sp l (Sl.mk (some (Addr.mk b64 0 none)) 2 2))) (by show 8<9;decide) rfl fun F7 st=> ?_
  have l45:=aa l4 l5
  exact wL (g:=rk) (aa l1 l45) rfl st (h.r.le l45) (h.c.le l45) (h.n.le l45) (h.t.le l45) (h.s.le l45) (h.l.le l45) (hm.le l5) (RL.ints.2 (RdS.new q61 rfl rfl (Nat.le_refl _)))
 ·refine h.st.newG fun b61 K5 F5 l5 q61 _ st=> ?_
  refine ⟨rfl,?_⟩
  refine st.run (aH 0 (by decide) _) fun _ K4 F4 hr l4 st=> ?_
  obtain ⟨_,rfl,hw⟩:=hr
  obtain ⟨m,rfl,hm⟩:=hw.out
  refine ⟨_,rfl,ai (st.le _ _ (l4 _ _ (l5 _ _ (h.k _ _ q)))),rfl,rfl,rfl,?_⟩
  refine st.new fun b64 F6 st=> ?_
  refine st.set1 (w':=(rk.arr c n' t s sp l (Sl.mk (some (Addr.mk b64 0 none)) 2 2))) (by show 8<9;decide) rfl fun F7 st=> ?_
  have l45:=aa l5 l4
  exact wL (g:=rk) (aa l1 l45) rfl st (h.r.le l45) (h.c.le l45) (h.n.le l45) (h.t.le l45) (h.s.le l45) (h.l.le l45) hm ((RL.ints.2 (RdS.new q61 rfl rfl (Nat.le_refl _))).le l4)
noncomputable def Ex:Gr:={cQ with lvs:=[]}
structure EK (K0 K F:PH) (b0 b1 b2:Nat) (n:Sl):Prop where
 h:KS K F b0 b1 Ex
 l:K0.le K
 q:K b2=some (.cells #[Sl.v n,vi aF.2] 33)
 n:RL K n aF.1
theorem EK.up {K0 K F K' F':PH} {b0 b1 b2:Nat} {n:Sl} (H:EK K0 K F b0 b1 b2 n) (l:K.le K') (h:KS K' F' b0 b1 Ex):EK K0 K' F' b0 b1 b2 n:=⟨h,aa H.l l,l _ _ H.q,H.n.le l⟩
theorem EK.row {K0 K F:PH} {b0 b1 b2:Nat} {n:Sl} (H:EK K0 K F b0 b1 b2 n):F.row (Addr.mk b2 0 none) #[Sl.v n,vi aF.2]:=ai (H.h.le _ _ H.q)
section
variable {K0 K F:PH} {b0 b1 b2:Nat} {n:Sl}
abbrev bM (K0:PH):VR:=fun r F'=>(∃w,r=.agg w∧GV F' w cQ)∧K0.le F'
theorem Hc (H:EK K0 K F b0 b1 b2 n) {b73:Nat} (hr:RL K (Sl.mk (some (Addr.mk b73 0 none)) 3 3) cQ.lvs):jY b1 b73 b0 (bM K0) F:=by
 unfold jY
 refine H.h.lvs hr fun F9 h=> ?_
 unfold yg
 exact h.fin (R:=bM K0) fun w F' hv hl=>⟨⟨w,rfl,hv⟩,aa H.l hl⟩
theorem fj (H:EK K0 K F b0 b1 b2 n) {m71:Sl} (h71:RL K m71 (cE 0).1) {b63:Nat} (q63:K b63=some (.cells #[vi 4] 3)) {b66:Nat} (q66:K b66=some (.cells #[vi 1] 3)) {b69:Nat} (q69:K b69=some (.cells #[vi 0] 3)):eU #[Sl.v m71,vi (cE 0).2] b63 #[Sl.v n,vi aF.2] b66 #[Sl.v n,vi aF.2] b69 b1 b0 (bM K0) F:=by
 unfold eU
 refine ⟨rfl,?_⟩
 refine ⟨rfl,?_⟩
 refine ⟨rfl,?_⟩
 refine ⟨rfl,?_⟩
 refine H.h.new fun b73 K F l q73 h=> ?_
 replace H:=H.up l h
 replace h71:=h71.le l
 replace q63:=l _ _ q63
 replace q66:=l _ _ q66
 replace q69:=l _ _ q69
 exact Hc H ⟨[_,_,_],.cons (dz (dp q63) H.n) (.cons (dz (dp q66) H.n) (.cons (dz (dp q69) h71) .nil)),RdS.new q73 (by kernel_rfl) rfl (Nat.le_refl _)⟩
theorem fk (H:EK K0 K F b0 b1 b2 n) {m70:Sl} (h70:RL K m70 (dia (tv 0)).1) {b63:Nat} (q63:K b63=some (.cells #[vi 4] 3)) {b66:Nat} (q66:K b66=some (.cells #[vi 1] 3)) {b69:Nat} (q69:K b69=some (.cells #[vi 0] 3)):eV #[Sl.v m70,vi (dia (tv 0)).2] b2 #[Sl.v n,vi aF.2] #[Sl.v n,vi aF.2] b63 b66 b69 b1 b0 (bM K0) F:=by
 unfold eV
 refine H.h.run (fun G hl=>ba (x:=0) (by decide) ((DV.mk h70).le hl)) fun _ K F hr l h=> ?_
 replace H:=H.up l h
 replace h70:=h70.le l
 replace q63:=l _ _ q63
 replace q66:=l _ _ q66
 replace q69:=l _ _ q69
 obtain ⟨_,rfl,hw⟩:=hr
 obtain ⟨m71,rfl,h71⟩:=hw.out
 refine ⟨_,rfl,?_⟩
 refine ⟨H.row,?_⟩
 refine ⟨H.row,?_⟩
 exact fj H h71 q63 q66 q69
theorem tu (H:EK K0 K F b0 b1 b2 n) {b63:Nat} (q63:K b63=some (.cells #[vi 4] 3)) {b66:Nat} (q66:K b66=some (.cells #[vi 1] 3)) {b69:Nat} (q69:K b69=some (.cells #[vi 0] 3)):mL b2 #[Sl.v n,vi aF.2] #[Sl.v n,vi aF.2] b63 b66 b69 b1 b0 (bM K0) F:=by
 unfold mL
 refine H.h.run (fun G _=>aH 0 (by decide) G) fun _ K F hr l h=> ?_
 replace H:=H.up l h
 replace q63:=l _ _ q63
 replace q66:=l _ _ q66
 replace q69:=l _ _ q69
 obtain ⟨_,rfl,hw⟩:=hr
 obtain ⟨m70,rfl,h70⟩:=hw.out
 refine ⟨_,rfl,?_⟩
 refine ⟨H.row,?_⟩
 refine ⟨H.row,?_⟩
 exact fk H h70 q63 q66 q69
theorem ny (H:EK K0 K F b0 b1 b2 n) {m71:Sl} (h71:RL K m71 (cE 0).1) {b63:Nat} (q63:K b63=some (.cells #[vi 4] 3)) {b66:Nat} (q66:K b66=some (.cells #[vi 1] 3)):jZ #[Sl.v m71,vi (cE 0).2] b63 #[Sl.v n,vi aF.2] b66 #[Sl.v n,vi aF.2] b1 b0 (bM K0) F:=by
 unfold jZ
 refine H.h.new fun b69 K F l q69 h=> ?_
 replace H:=H.up l h
 replace h71:=h71.le l
 replace q63:=l _ _ q63
 replace q66:=l _ _ q66
 exact fj H h71 q63 q66 q69
theorem tw (H:EK K0 K F b0 b1 b2 n) {m70:Sl} (h70:RL K m70 (dia (tv 0)).1) {b63:Nat} (q63:K b63=some (.cells #[vi 4] 3)) {b66:Nat} (q66:K b66=some (.cells #[vi 1] 3)):mM #[Sl.v m70,vi (dia (tv 0)).2] b2 #[Sl.v n,vi aF.2] #[Sl.v n,vi aF.2] b63 b66 b1 b0 (bM K0) F:=by
 unfold mM
 refine ⟨?_,?_⟩
 ·refine H.h.new fun b69 K F l q69 h=> ?_
  replace H:=H.up l h
  replace h70:=h70.le l
  replace q63:=l _ _ q63
  replace q66:=l _ _ q66
  exact fk H h70 q63 q66 q69
 ·refine H.h.run (fun G hl=>ba (x:=0) (by decide) ((DV.mk h70).le hl)) fun _ K F hr l h=> ?_
  replace H:=H.up l h
  replace h70:=h70.le l
  replace q63:=l _ _ q63
  replace q66:=l _ _ q66
  obtain ⟨_,rfl,hw⟩:=hr
  obtain ⟨m71,rfl,h71⟩:=hw.out
  refine ⟨_,rfl,?_⟩
  refine ⟨H.row,?_⟩
  refine ⟨H.row,?_⟩
  exact ny H h71 q63 q66
theorem Au (H:EK K0 K F b0 b1 b2 n) {b63:Nat} (q63:K b63=some (.cells #[vi 4] 3)) {b66:Nat} (q66:K b66=some (.cells #[vi 1] 3)):sJ #[Sl.v n,vi aF.2] b2 #[Sl.v n,vi aF.2] b63 b66 b1 b0 (bM K0) F:=by
 unfold sJ
 refine ⟨rfl,?_⟩
 refine ⟨?_,?_⟩
 ·refine H.h.new fun b69 K F l q69 h=> ?_
  replace H:=H.up l h
  replace q63:=l _ _ q63
  replace q66:=l _ _ q66
  exact tu H q63 q66 q69
 ·refine H.h.run (fun G _=>aH 0 (by decide) G) fun _ K F hr l h=> ?_
  replace H:=H.up l h
  replace q63:=l _ _ q63
  replace q66:=l _ _ q66
  obtain ⟨_,rfl,hw⟩:=hr
  obtain ⟨m70,rfl,h70⟩:=hw.out
  refine ⟨_,rfl,?_⟩
  refine ⟨H.row,?_⟩
  refine ⟨H.row,?_⟩
  exact tw H h70 q63 q66
theorem pR (H:EK K0 K F b0 b1 b2 n) {b63:Nat} (q63:K b63=some (.cells #[vi 4] 3)) {b66:Nat} (q66:K b66=some (.cells #[vi 1] 3)) {b69:Nat} (q69:K b69=some (.cells #[vi 0] 3)):j0 #[Sl.v n,vi aF.2] b2 #[Sl.v n,vi aF.2] b63 b66 b69 b1 b0 (bM K0) F:=by
 unfold j0
 refine ⟨rfl,?_⟩
 refine H.h.run (fun G _=>aH 0 (by decide) G) fun _ K F hr l h=> ?_
 replace H:=H.up l h
 replace q63:=l _ _ q63
 replace q66:=l _ _ q66
 replace q69:=l _ _ q69
 obtain ⟨_,rfl,hw⟩:=hr
 obtain ⟨m70,rfl,h70⟩:=hw.out
 refine ⟨_,rfl,?_⟩
 refine ⟨H.row,?_⟩
 refine ⟨H.row,?_⟩
 exact fk H h70 q63 q66 q69
theorem pS (H:EK K0 K F b0 b1 b2 n) {m70:Sl} (h70:RL K m70 (dia (tv 0)).1) {b63:Nat} (q63:K b63=some (.cells #[vi 4] 3)) {b66:Nat} (q66:K b66=some (.cells #[vi 1] 3)) {b69:Nat} (q69:K b69=some (.cells #[vi 0] 3)):j5 #[Sl.v n,vi aF.2] #[Sl.v m70,vi (dia (tv 0)).2] b2 #[Sl.v n,vi aF.2] b63 b66 b69 b1 b0 (bM K0) F:=by
 unfold j5
 refine ⟨rfl,?_⟩
 refine H.h.run (fun G hl=>ba (x:=0) (by decide) ((DV.mk h70).le hl)) fun _ K F hr l h=> ?_
 replace H:=H.up l h
 replace h70:=h70.le l
 replace q63:=l _ _ q63
 replace q66:=l _ _ q66
 replace q69:=l _ _ q69
 obtain ⟨_,rfl,hw⟩:=hr
 obtain ⟨m71,rfl,h71⟩:=hw.out
 refine ⟨_,rfl,?_⟩
 refine ⟨H.row,?_⟩
 refine ⟨H.row,?_⟩
 exact fj H h71 q63 q66 q69
theorem pT (H:EK K0 K F b0 b1 b2 n) {b63:Nat} (q63:K b63=some (.cells #[vi 4] 3)) {b66:Nat} (q66:K b66=some (.cells #[vi 1] 3)) {b69:Nat} (q69:K b69=some (.cells #[vi 0] 3)) {m71:Sl} (h71:RL K m71 (cE 0).1):j7 #[Sl.v n,vi aF.2] b63 #[Sl.v n,vi aF.2] b66 b69 #[Sl.v m71,vi (cE 0).2] b1 b0 (bM K0) F:=by
 unfold j7
 refine ⟨rfl,?_⟩
 refine ⟨rfl,?_⟩
 refine ⟨rfl,?_⟩
 refine ⟨rfl,?_⟩
 refine H.h.new fun b73 K F l q73 h=> ?_
 replace H:=H.up l h
 replace q63:=l _ _ q63
 replace q66:=l _ _ q66
 replace q69:=l _ _ q69
 replace h71:=h71.le l
 exact Hc H ⟨[_,_,_],.cons (dz (dp q63) H.n) (.cons (dz (dp q66) H.n) (.cons (dz (dp q69) h71) .nil)),RdS.new q73 (by kernel_rfl) rfl (Nat.le_refl _)⟩
theorem ib (H:EK K0 K F b0 b1 b2 n) {m71:Sl} (h71:RL K m71 (cE 0).1) {b63:Nat} (q63:K b63=some (.cells #[vi 4] 3)) {b69:Nat} (q69:K b69=some (.cells #[vi 0] 3)):fI #[Sl.v m71,vi (cE 0).2] #[Sl.v n,vi aF.2] b63 #[Sl.v n,vi aF.2] b69 b1 b0 (bM K0) F:=by
 unfold fI
 refine ⟨rfl,?_⟩
 refine H.h.new fun b66 K F l q66 h=> ?_
 replace H:=H.up l h
 replace h71:=h71.le l
 replace q63:=l _ _ q63
 replace q69:=l _ _ q69
 exact pT H q63 q66 q69 h71
theorem ic (H:EK K0 K F b0 b1 b2 n) {m70:Sl} (h70:RL K m70 (dia (tv 0)).1) {b63:Nat} (q63:K b63=some (.cells #[vi 4] 3)) {b69:Nat} (q69:K b69=some (.cells #[vi 0] 3)):fJ #[Sl.v n,vi aF.2] #[Sl.v m70,vi (dia (tv 0)).2] b2 #[Sl.v n,vi aF.2] b63 b69 b1 b0 (bM K0) F:=by
 unfold fJ
 refine ⟨?_,?_⟩
 ·refine H.h.new fun b66 K F l q66 h=> ?_
  replace H:=H.up l h
  replace h70:=h70.le l
  replace q63:=l _ _ q63
  replace q69:=l _ _ q69
  exact pS H h70 q63 q66 q69
 ·refine H.h.run (fun G hl=>ba (x:=0) (by decide) ((DV.mk h70).le hl)) fun _ K F hr l h=> ?_
  replace H:=H.up l h
  replace h70:=h70.le l
  replace q63:=l _ _ q63
  replace q69:=l _ _ q69
  obtain ⟨_,rfl,hw⟩:=hr
  obtain ⟨m71,rfl,h71⟩:=hw.out
  refine ⟨_,rfl,?_⟩
  refine ⟨H.row,?_⟩
  refine ⟨H.row,?_⟩
  exact ib H h71 q63 q69
theorem yC (H:EK K0 K F b0 b1 b2 n) {b63:Nat} (q63:K b63=some (.cells #[vi 4] 3)) {b69:Nat} (q69:K b69=some (.cells #[vi 0] 3)):oZ #[Sl.v n,vi aF.2] b2 #[Sl.v n,vi aF.2] b63 b69 b1 b0 (bM K0) F:=by
 unfold oZ
 refine ⟨?_,?_⟩
 ·refine H.h.new fun b66 K F l q66 h=> ?_
  replace H:=H.up l h
  replace q63:=l _ _ q63
  replace q69:=l _ _ q69
  exact pR H q63 q66 q69
 ·refine H.h.run (fun G _=>aH 0 (by decide) G) fun _ K F hr l h=> ?_
  replace H:=H.up l h
  replace q63:=l _ _ q63
  replace q69:=l _ _ q69
  obtain ⟨_,rfl,hw⟩:=hr
  obtain ⟨m70,rfl,h70⟩:=hw.out
  refine ⟨_,rfl,?_⟩
  refine ⟨H.row,?_⟩
  refine ⟨H.row,?_⟩
  exact ic H h70 q63 q69
theorem pU (H:EK K0 K F b0 b1 b2 n) {m70:Sl} (h70:RL K m70 (dia (tv 0)).1) {b63:Nat} (q63:K b63=some (.cells #[vi 4] 3)) {b66:Nat} (q66:K b66=some (.cells #[vi 1] 3)):j8 #[Sl.v n,vi aF.2] #[Sl.v m70,vi (dia (tv 0)).2] b2 #[Sl.v n,vi aF.2] b63 b66 b1 b0 (bM K0) F:=by
 unfold j8
 refine ⟨rfl,?_⟩
 refine ⟨?_,?_⟩
 ·refine H.h.new fun b69 K F l q69 h=> ?_
  replace H:=H.up l h
  replace h70:=h70.le l
  replace q63:=l _ _ q63
  replace q66:=l _ _ q66
  exact fk H h70 q63 q66 q69
 ·refine H.h.run (fun G hl=>ba (x:=0) (by decide) ((DV.mk h70).le hl)) fun _ K F hr l h=> ?_
  replace H:=H.up l h
  replace h70:=h70.le l
  replace q63:=l _ _ q63
  replace q66:=l _ _ q66
  obtain ⟨_,rfl,hw⟩:=hr
  obtain ⟨m71,rfl,h71⟩:=hw.out
  refine ⟨_,rfl,?_⟩
  refine ⟨H.row,?_⟩
  refine ⟨H.row,?_⟩
  exact ny H h71 q63 q66
theorem pV (H:EK K0 K F b0 b1 b2 n) {m71:Sl} (h71:RL K m71 (cE 0).1) {b63:Nat} (q63:K b63=some (.cells #[vi 4] 3)) {b66:Nat} (q66:K b66=some (.cells #[vi 1] 3)):j9 #[Sl.v n,vi aF.2] #[Sl.v m71,vi (cE 0).2] b63 #[Sl.v n,vi aF.2] b66 b1 b0 (bM K0) F:=by
 unfold j9
 refine ⟨rfl,?_⟩
 refine H.h.new fun b69 K F l q69 h=> ?_
 replace H:=H.up l h
 replace h71:=h71.le l
 replace q63:=l _ _ q63
 replace q66:=l _ _ q66
 exact fj H h71 q63 q66 q69
theorem pW (H:EK K0 K F b0 b1 b2 n) {m71:Sl} (h71:RL K m71 (cE 0).1) {b63:Nat} (q63:K b63=some (.cells #[vi 4] 3)):kc #[Sl.v n,vi aF.2] #[Sl.v m71,vi (cE 0).2] b63 #[Sl.v n,vi aF.2] b1 b0 (bM K0) F:=by
 unfold kc
 refine ⟨?_,?_⟩
 ·refine H.h.new fun b66 K F l q66 h=> ?_
  replace H:=H.up l h
  replace h71:=h71.le l
  replace q63:=l _ _ q63
  exact pV H h71 q63 q66
 ·refine H.h.new fun b69 K F l q69 h=> ?_
  replace H:=H.up l h
  replace h71:=h71.le l
  replace q63:=l _ _ q63
  exact ib H h71 q63 q69
theorem yD (H:EK K0 K F b0 b1 b2 n) {m70:Sl} (h70:RL K m70 (dia (tv 0)).1) {b63:Nat} (q63:K b63=some (.cells #[vi 4] 3)):o8 #[Sl.v n,vi aF.2] #[Sl.v m70,vi (dia (tv 0)).2] b2 #[Sl.v n,vi aF.2] b63 b1 b0 (bM K0) F:=by
 unfold o8
 refine ⟨?_,?_,?_⟩
 ·refine H.h.new fun b66 K F l q66 h=> ?_
  replace H:=H.up l h
  replace h70:=h70.le l
  replace q63:=l _ _ q63
  exact pU H h70 q63 q66
 ·refine H.h.new fun b69 K F l q69 h=> ?_
  replace H:=H.up l h
  replace h70:=h70.le l
  replace q63:=l _ _ q63
  exact ic H h70 q63 q69
 ·refine H.h.run (fun G hl=>ba (x:=0) (by decide) ((DV.mk h70).le hl)) fun _ K F hr l h=> ?_
  replace H:=H.up l h
  replace h70:=h70.le l
  replace q63:=l _ _ q63
  obtain ⟨_,rfl,hw⟩:=hr
  obtain ⟨m71,rfl,h71⟩:=hw.out
  refine ⟨_,rfl,?_⟩
  refine ⟨H.row,?_⟩
  refine ⟨H.row,?_⟩
  exact pW H h71 q63
theorem Av (H:EK K0 K F b0 b1 b2 n) {b63:Nat} (q63:K b63=some (.cells #[vi 4] 3)):sK #[Sl.v n,vi aF.2] #[Sl.v n,vi aF.2] b2 b63 b1 b0 (bM K0) F:=by
 unfold sK
 refine ⟨rfl,?_⟩
 refine ⟨?_,?_,?_⟩
 ·refine H.h.new fun b66 K F l q66 h=> ?_
  replace H:=H.up l h
  replace q63:=l _ _ q63
  exact Au H q63 q66
 ·refine H.h.new fun b69 K F l q69 h=> ?_
  replace H:=H.up l h
  replace q63:=l _ _ q63
  exact yC H q63 q69
 ·refine H.h.run (fun G _=>aH 0 (by decide) G) fun _ K F hr l h=> ?_
  replace H:=H.up l h
  replace q63:=l _ _ q63
  obtain ⟨_,rfl,hw⟩:=hr
  obtain ⟨m70,rfl,h70⟩:=hw.out
  refine ⟨_,rfl,?_⟩
  refine ⟨H.row,?_⟩
  refine ⟨H.row,?_⟩
  exact yD H h70 q63
theorem yF (H:EK K0 K F b0 b1 b2 n) {b63:Nat} (q63:K b63=some (.cells #[vi 4] 3)) {b66:Nat} (q66:K b66=some (.cells #[vi 1] 3)):o9 #[Sl.v n,vi aF.2] b2 #[Sl.v n,vi aF.2] b63 b66 b1 b0 (bM K0) F:=by
 unfold o9
 refine ⟨rfl,?_⟩
 refine ⟨?_,?_⟩
 ·refine H.h.new fun b69 K F l q69 h=> ?_
  replace H:=H.up l h
  replace q63:=l _ _ q63
  replace q66:=l _ _ q66
  exact tu H q63 q66 q69
 ·refine H.h.run (fun G _=>aH 0 (by decide) G) fun _ K F hr l h=> ?_
  replace H:=H.up l h
  replace q63:=l _ _ q63
  replace q66:=l _ _ q66
  obtain ⟨_,rfl,hw⟩:=hr
  obtain ⟨m70,rfl,h70⟩:=hw.out
  refine ⟨_,rfl,?_⟩
  refine ⟨H.row,?_⟩
  refine ⟨H.row,?_⟩
  exact tw H h70 q63 q66
theorem pX (H:EK K0 K F b0 b1 b2 n) {b63:Nat} (q63:K b63=some (.cells #[vi 4] 3)) {b66:Nat} (q66:K b66=some (.cells #[vi 1] 3)) {b69:Nat} (q69:K b69=some (.cells #[vi 0] 3)):ke #[Sl.v n,vi aF.2] b2 #[Sl.v n,vi aF.2] b63 b66 b69 b1 b0 (bM K0) F:=by
 unfold ke
 refine ⟨rfl,?_⟩
 refine H.h.run (fun G _=>aH 0 (by decide) G) fun _ K F hr l h=> ?_
 replace H:=H.up l h
 replace q63:=l _ _ q63
 replace q66:=l _ _ q66
 replace q69:=l _ _ q69
 obtain ⟨_,rfl,hw⟩:=hr
 obtain ⟨m70,rfl,h70⟩:=hw.out
 refine ⟨_,rfl,?_⟩
 refine ⟨H.row,?_⟩
 refine ⟨H.row,?_⟩
 exact fk H h70 q63 q66 q69
theorem pY (H:EK K0 K F b0 b1 b2 n) {m70:Sl} (h70:RL K m70 (dia (tv 0)).1) {b63:Nat} (q63:K b63=some (.cells #[vi 4] 3)) {b66:Nat} (q66:K b66=some (.cells #[vi 1] 3)) {b69:Nat} (q69:K b69=some (.cells #[vi 0] 3)):kf #[Sl.v n,vi aF.2] #[Sl.v m70,vi (dia (tv 0)).2] b2 #[Sl.v n,vi aF.2] b63 b66 b69 b1 b0 (bM K0) F:=by
 unfold kf
 refine ⟨rfl,?_⟩
 refine H.h.run (fun G hl=>ba (x:=0) (by decide) ((DV.mk h70).le hl)) fun _ K F hr l h=> ?_
 replace H:=H.up l h
 replace h70:=h70.le l
 replace q63:=l _ _ q63
 replace q66:=l _ _ q66
 replace q69:=l _ _ q69
 obtain ⟨_,rfl,hw⟩:=hr
 obtain ⟨m71,rfl,h71⟩:=hw.out
 refine ⟨_,rfl,?_⟩
 refine ⟨H.row,?_⟩
 refine ⟨H.row,?_⟩
 exact fj H h71 q63 q66 q69
theorem pZ (H:EK K0 K F b0 b1 b2 n) {b63:Nat} (q63:K b63=some (.cells #[vi 4] 3)) {b66:Nat} (q66:K b66=some (.cells #[vi 1] 3)) {b69:Nat} (q69:K b69=some (.cells #[vi 0] 3)) {m71:Sl} (h71:RL K m71 (cE 0).1):kg #[Sl.v n,vi aF.2] b63 b66 #[Sl.v n,vi aF.2] b69 #[Sl.v m71,vi (cE 0).2] b1 b0 (bM K0) F:=by
 unfold kg
 refine ⟨rfl,?_⟩
 refine ⟨rfl,?_⟩
 refine ⟨rfl,?_⟩
 refine ⟨rfl,?_⟩
 refine H.h.new fun b73 K F l q73 h=> ?_
 replace H:=H.up l h
 replace q63:=l _ _ q63
 replace q66:=l _ _ q66
 replace q69:=l _ _ q69
 replace h71:=h71.le l
 exact Hc H ⟨[_,_,_],.cons (dz (dp q63) H.n) (.cons (dz (dp q66) H.n) (.cons (dz (dp q69) h71) .nil)),RdS.new q73 (by kernel_rfl) rfl (Nat.le_refl _)⟩
theorem ie (H:EK K0 K F b0 b1 b2 n) {m71:Sl} (h71:RL K m71 (cE 0).1) {b66:Nat} (q66:K b66=some (.cells #[vi 1] 3)) {b69:Nat} (q69:K b69=some (.cells #[vi 0] 3)):fK #[Sl.v m71,vi (cE 0).2] #[Sl.v n,vi aF.2] b66 #[Sl.v n,vi aF.2] b69 b1 b0 (bM K0) F:=by
 unfold fK
 refine ⟨rfl,?_⟩
 refine H.h.new fun b63 K F l q63 h=> ?_
 replace H:=H.up l h
 replace h71:=h71.le l
 replace q66:=l _ _ q66
 replace q69:=l _ _ q69
 exact pZ H q63 q66 q69 h71
theorem ig (H:EK K0 K F b0 b1 b2 n) {m70:Sl} (h70:RL K m70 (dia (tv 0)).1) {b66:Nat} (q66:K b66=some (.cells #[vi 1] 3)) {b69:Nat} (q69:K b69=some (.cells #[vi 0] 3)):fL #[Sl.v n,vi aF.2] #[Sl.v m70,vi (dia (tv 0)).2] b2 #[Sl.v n,vi aF.2] b66 b69 b1 b0 (bM K0) F:=by
 unfold fL
 refine ⟨?_,?_⟩
 ·refine H.h.new fun b63 K F l q63 h=> ?_
  replace H:=H.up l h
  replace h70:=h70.le l
  replace q66:=l _ _ q66
  replace q69:=l _ _ q69
  exact pY H h70 q63 q66 q69
 ·refine H.h.run (fun G hl=>ba (x:=0) (by decide) ((DV.mk h70).le hl)) fun _ K F hr l h=> ?_
  replace H:=H.up l h
  replace h70:=h70.le l
  replace q66:=l _ _ q66
  replace q69:=l _ _ q69
  obtain ⟨_,rfl,hw⟩:=hr
  obtain ⟨m71,rfl,h71⟩:=hw.out
  refine ⟨_,rfl,?_⟩
  refine ⟨H.row,?_⟩
  refine ⟨H.row,?_⟩
  exact ie H h71 q66 q69
theorem yG (H:EK K0 K F b0 b1 b2 n) {b66:Nat} (q66:K b66=some (.cells #[vi 1] 3)) {b69:Nat} (q69:K b69=some (.cells #[vi 0] 3)):pd #[Sl.v n,vi aF.2] b2 #[Sl.v n,vi aF.2] b66 b69 b1 b0 (bM K0) F:=by
 unfold pd
 refine ⟨?_,?_⟩
 ·refine H.h.new fun b63 K F l q63 h=> ?_
  replace H:=H.up l h
  replace q66:=l _ _ q66
  replace q69:=l _ _ q69
  exact pX H q63 q66 q69
 ·refine H.h.run (fun G _=>aH 0 (by decide) G) fun _ K F hr l h=> ?_
  replace H:=H.up l h
  replace q66:=l _ _ q66
  replace q69:=l _ _ q69
  obtain ⟨_,rfl,hw⟩:=hr
  obtain ⟨m70,rfl,h70⟩:=hw.out
  refine ⟨_,rfl,?_⟩
  refine ⟨H.row,?_⟩
  refine ⟨H.row,?_⟩
  exact ig H h70 q66 q69
theorem p9 (H:EK K0 K F b0 b1 b2 n) {m70:Sl} (h70:RL K m70 (dia (tv 0)).1) {b63:Nat} (q63:K b63=some (.cells #[vi 4] 3)) {b66:Nat} (q66:K b66=some (.cells #[vi 1] 3)):ki #[Sl.v n,vi aF.2] #[Sl.v m70,vi (dia (tv 0)).2] b2 #[Sl.v n,vi aF.2] b63 b66 b1 b0 (bM K0) F:=by
 unfold ki
 refine ⟨rfl,?_⟩
 refine ⟨?_,?_⟩
 ·refine H.h.new fun b69 K F l q69 h=> ?_
  replace H:=H.up l h
  replace h70:=h70.le l
  replace q63:=l _ _ q63
  replace q66:=l _ _ q66
  exact fk H h70 q63 q66 q69
 ·refine H.h.run (fun G hl=>ba (x:=0) (by decide) ((DV.mk h70).le hl)) fun _ K F hr l h=> ?_
  replace H:=H.up l h
  replace h70:=h70.le l
  replace q63:=l _ _ q63
  replace q66:=l _ _ q66
  obtain ⟨_,rfl,hw⟩:=hr
  obtain ⟨m71,rfl,h71⟩:=hw.out
  refine ⟨_,rfl,?_⟩
  refine ⟨H.row,?_⟩
  refine ⟨H.row,?_⟩
  exact ny H h71 q63 q66
theorem qa (H:EK K0 K F b0 b1 b2 n) {m71:Sl} (h71:RL K m71 (cE 0).1) {b63:Nat} (q63:K b63=some (.cells #[vi 4] 3)) {b66:Nat} (q66:K b66=some (.cells #[vi 1] 3)):kj #[Sl.v n,vi aF.2] #[Sl.v m71,vi (cE 0).2] b63 b66 #[Sl.v n,vi aF.2] b1 b0 (bM K0) F:=by
 unfold kj
 refine ⟨rfl,?_⟩
 refine H.h.new fun b69 K F l q69 h=> ?_
 replace H:=H.up l h
 replace h71:=h71.le l
 replace q63:=l _ _ q63
 replace q66:=l _ _ q66
 exact fj H h71 q63 q66 q69
theorem qe (H:EK K0 K F b0 b1 b2 n) {m71:Sl} (h71:RL K m71 (cE 0).1) {b66:Nat} (q66:K b66=some (.cells #[vi 1] 3)):km #[Sl.v n,vi aF.2] #[Sl.v m71,vi (cE 0).2] b66 #[Sl.v n,vi aF.2] b1 b0 (bM K0) F:=by
 unfold km
 refine ⟨?_,?_⟩
 ·refine H.h.new fun b63 K F l q63 h=> ?_
  replace H:=H.up l h
  replace h71:=h71.le l
  replace q66:=l _ _ q66
  exact qa H h71 q63 q66
 ·refine H.h.new fun b69 K F l q69 h=> ?_
  replace H:=H.up l h
  replace h71:=h71.le l
  replace q66:=l _ _ q66
  exact ie H h71 q66 q69
theorem yH (H:EK K0 K F b0 b1 b2 n) {m70:Sl} (h70:RL K m70 (dia (tv 0)).1) {b66:Nat} (q66:K b66=some (.cells #[vi 1] 3)):pe #[Sl.v n,vi aF.2] #[Sl.v m70,vi (dia (tv 0)).2] b2 #[Sl.v n,vi aF.2] b66 b1 b0 (bM K0) F:=by
 unfold pe
 refine ⟨?_,?_,?_⟩
 ·refine H.h.new fun b63 K F l q63 h=> ?_
  replace H:=H.up l h
  replace h70:=h70.le l
  replace q66:=l _ _ q66
  exact p9 H h70 q63 q66
 ·refine H.h.new fun b69 K F l q69 h=> ?_
  replace H:=H.up l h
  replace h70:=h70.le l
  replace q66:=l _ _ q66
  exact ig H h70 q66 q69
 ·refine H.h.run (fun G hl=>ba (x:=0) (by decide) ((DV.mk h70).le hl)) fun _ K F hr l h=> ?_
  replace H:=H.up l h
  replace h70:=h70.le l
  replace q66:=l _ _ q66
  obtain ⟨_,rfl,hw⟩:=hr
  obtain ⟨m71,rfl,h71⟩:=hw.out
  refine ⟨_,rfl,?_⟩
  refine ⟨H.row,?_⟩
  refine ⟨H.row,?_⟩
  exact qe H h71 q66
theorem yI (H:EK K0 K F b0 b1 b2 n) {b66:Nat} (q66:K b66=some (.cells #[vi 1] 3)):pf #[Sl.v n,vi aF.2] #[Sl.v n,vi aF.2] b2 b66 b1 b0 (bM K0) F:=by
 unfold pf
 refine ⟨rfl,?_⟩
 refine ⟨?_,?_,?_⟩
 ·refine H.h.new fun b63 K F l q63 h=> ?_
  replace H:=H.up l h
  replace q66:=l _ _ q66
  exact yF H q63 q66
 ·refine H.h.new fun b69 K F l q69 h=> ?_
  replace H:=H.up l h
  replace q66:=l _ _ q66
  exact yG H q66 q69
 ·refine H.h.run (fun G _=>aH 0 (by decide) G) fun _ K F hr l h=> ?_
  replace H:=H.up l h
  replace q66:=l _ _ q66
  obtain ⟨_,rfl,hw⟩:=hr
  obtain ⟨m70,rfl,h70⟩:=hw.out
  refine ⟨_,rfl,?_⟩
  refine ⟨H.row,?_⟩
  refine ⟨H.row,?_⟩
  exact yH H h70 q66
theorem yJ (H:EK K0 K F b0 b1 b2 n) {b63:Nat} (q63:K b63=some (.cells #[vi 4] 3)) {b69:Nat} (q69:K b69=some (.cells #[vi 0] 3)):pg #[Sl.v n,vi aF.2] #[Sl.v n,vi aF.2] b2 b63 b69 b1 b0 (bM K0) F:=by
 unfold pg
 refine ⟨rfl,?_⟩
 refine ⟨?_,?_⟩
 ·refine H.h.new fun b66 K F l q66 h=> ?_
  replace H:=H.up l h
  replace q63:=l _ _ q63
  replace q69:=l _ _ q69
  exact pR H q63 q66 q69
 ·refine H.h.run (fun G _=>aH 0 (by decide) G) fun _ K F hr l h=> ?_
  replace H:=H.up l h
  replace q63:=l _ _ q63
  replace q69:=l _ _ q69
  obtain ⟨_,rfl,hw⟩:=hr
  obtain ⟨m70,rfl,h70⟩:=hw.out
  refine ⟨_,rfl,?_⟩
  refine ⟨H.row,?_⟩
  refine ⟨H.row,?_⟩
  exact ic H h70 q63 q69
theorem yK (H:EK K0 K F b0 b1 b2 n) {b66:Nat} (q66:K b66=some (.cells #[vi 1] 3)) {b69:Nat} (q69:K b69=some (.cells #[vi 0] 3)):ph #[Sl.v n,vi aF.2] #[Sl.v n,vi aF.2] b2 b66 b69 b1 b0 (bM K0) F:=by
 unfold ph
 refine ⟨rfl,?_⟩
 refine ⟨?_,?_⟩
 ·refine H.h.new fun b63 K F l q63 h=> ?_
  replace H:=H.up l h
  replace q66:=l _ _ q66
  replace q69:=l _ _ q69
  exact pX H q63 q66 q69
 ·refine H.h.run (fun G _=>aH 0 (by decide) G) fun _ K F hr l h=> ?_
  replace H:=H.up l h
  replace q66:=l _ _ q66
  replace q69:=l _ _ q69
  obtain ⟨_,rfl,hw⟩:=hr
  obtain ⟨m70,rfl,h70⟩:=hw.out
  refine ⟨_,rfl,?_⟩
  refine ⟨H.row,?_⟩
  refine ⟨H.row,?_⟩
  exact ig H h70 q66 q69
theorem yL (H:EK K0 K F b0 b1 b2 n) {m70:Sl} (h70:RL K m70 (dia (tv 0)).1) {b63:Nat} (q63:K b63=some (.cells #[vi 4] 3)) {b69:Nat} (q69:K b69=some (.cells #[vi 0] 3)):pj #[Sl.v n,vi aF.2] #[Sl.v n,vi aF.2] #[Sl.v m70,vi (dia (tv 0)).2] b2 b63 b69 b1 b0 (bM K0) F:=by
 unfold pj
 refine ⟨rfl,?_⟩
 refine ⟨?_,?_⟩
 ·refine H.h.new fun b66 K F l q66 h=> ?_
  replace H:=H.up l h
  replace h70:=h70.le l
  replace q63:=l _ _ q63
  replace q69:=l _ _ q69
  exact pS H h70 q63 q66 q69
 ·refine H.h.run (fun G hl=>ba (x:=0) (by decide) ((DV.mk h70).le hl)) fun _ K F hr l h=> ?_
  replace H:=H.up l h
  replace h70:=h70.le l
  replace q63:=l _ _ q63
  replace q69:=l _ _ q69
  obtain ⟨_,rfl,hw⟩:=hr
  obtain ⟨m71,rfl,h71⟩:=hw.out
  refine ⟨_,rfl,?_⟩
  refine ⟨H.row,?_⟩
  refine ⟨H.row,?_⟩
  exact ib H h71 q63 q69
theorem yM (H:EK K0 K F b0 b1 b2 n) {m70:Sl} (h70:RL K m70 (dia (tv 0)).1) {b66:Nat} (q66:K b66=some (.cells #[vi 1] 3)) {b69:Nat} (q69:K b69=some (.cells #[vi 0] 3)):pk #[Sl.v n,vi aF.2] #[Sl.v n,vi aF.2] #[Sl.v m70,vi (dia (tv 0)).2] b2 b66 b69 b1 b0 (bM K0) F:=by
 unfold pk
 refine ⟨rfl,?_⟩
 refine ⟨?_,?_⟩
 ·refine H.h.new fun b63 K F l q63 h=> ?_
  replace H:=H.up l h
  replace h70:=h70.le l
  replace q66:=l _ _ q66
  replace q69:=l _ _ q69
  exact pY H h70 q63 q66 q69
 ·refine H.h.run (fun G hl=>ba (x:=0) (by decide) ((DV.mk h70).le hl)) fun _ K F hr l h=> ?_
  replace H:=H.up l h
  replace h70:=h70.le l
  replace q66:=l _ _ q66
  replace q69:=l _ _ q69
  obtain ⟨_,rfl,hw⟩:=hr
  obtain ⟨m71,rfl,h71⟩:=hw.out
  refine ⟨_,rfl,?_⟩
  refine ⟨H.row,?_⟩
  refine ⟨H.row,?_⟩
  exact ie H h71 q66 q69
theorem yN (H:EK K0 K F b0 b1 b2 n) {b63:Nat} (q63:K b63=some (.cells #[vi 4] 3)) {b69:Nat} (q69:K b69=some (.cells #[vi 0] 3)) {m71:Sl} (h71:RL K m71 (cE 0).1):pm #[Sl.v n,vi aF.2] #[Sl.v n,vi aF.2] b63 b69 #[Sl.v m71,vi (cE 0).2] b1 b0 (bM K0) F:=by
 unfold pm
 refine ⟨rfl,?_⟩
 refine H.h.new fun b66 K F l q66 h=> ?_
 replace H:=H.up l h
 replace q63:=l _ _ q63
 replace q69:=l _ _ q69
 replace h71:=h71.le l
 exact pT H q63 q66 q69 h71
theorem yO (H:EK K0 K F b0 b1 b2 n) {b66:Nat} (q66:K b66=some (.cells #[vi 1] 3)) {b69:Nat} (q69:K b69=some (.cells #[vi 0] 3)) {m71:Sl} (h71:RL K m71 (cE 0).1):pn #[Sl.v n,vi aF.2] #[Sl.v n,vi aF.2] b66 b69 #[Sl.v m71,vi (cE 0).2] b1 b0 (bM K0) F:=by
 unfold pn
 refine ⟨rfl,?_⟩
 refine H.h.new fun b63 K F l q63 h=> ?_
 replace H:=H.up l h
 replace q66:=l _ _ q66
 replace q69:=l _ _ q69
 replace h71:=h71.le l
 exact pZ H q63 q66 q69 h71
theorem qh (H:EK K0 K F b0 b1 b2 n) {m71:Sl} (h71:RL K m71 (cE 0).1) {b69:Nat} (q69:K b69=some (.cells #[vi 0] 3)):ko #[Sl.v m71,vi (cE 0).2] #[Sl.v n,vi aF.2] #[Sl.v n,vi aF.2] b69 b1 b0 (bM K0) F:=by
 unfold ko
 refine ⟨rfl,?_⟩
 refine ⟨?_,?_⟩
 ·refine H.h.new fun b63 K F l q63 h=> ?_
  replace H:=H.up l h
  replace h71:=h71.le l
  replace q69:=l _ _ q69
  exact yN H q63 q69 h71
 ·refine H.h.new fun b66 K F l q66 h=> ?_
  replace H:=H.up l h
  replace h71:=h71.le l
  replace q69:=l _ _ q69
  exact yO H q66 q69 h71
theorem qi (H:EK K0 K F b0 b1 b2 n) {m70:Sl} (h70:RL K m70 (dia (tv 0)).1) {b69:Nat} (q69:K b69=some (.cells #[vi 0] 3)):kp #[Sl.v n,vi aF.2] #[Sl.v n,vi aF.2] #[Sl.v m70,vi (dia (tv 0)).2] b2 b69 b1 b0 (bM K0) F:=by
 unfold kp
 refine ⟨?_,?_,?_⟩
 ·refine H.h.new fun b63 K F l q63 h=> ?_
  replace H:=H.up l h
  replace h70:=h70.le l
  replace q69:=l _ _ q69
  exact yL H h70 q63 q69
 ·refine H.h.new fun b66 K F l q66 h=> ?_
  replace H:=H.up l h
  replace h70:=h70.le l
  replace q69:=l _ _ q69
  exact yM H h70 q66 q69
 ·refine H.h.run (fun G hl=>ba (x:=0) (by decide) ((DV.mk h70).le hl)) fun _ K F hr l h=> ?_
  replace H:=H.up l h
  replace h70:=h70.le l
  replace q69:=l _ _ q69
  obtain ⟨_,rfl,hw⟩:=hr
  obtain ⟨m71,rfl,h71⟩:=hw.out
  refine ⟨_,rfl,?_⟩
  refine ⟨H.row,?_⟩
  refine ⟨H.row,?_⟩
  exact qh H h71 q69
theorem yP (H:EK K0 K F b0 b1 b2 n) {b69:Nat} (q69:K b69=some (.cells #[vi 0] 3)):po #[Sl.v n,vi aF.2] #[Sl.v n,vi aF.2] b2 b69 b1 b0 (bM K0) F:=by
 unfold po
 refine ⟨?_,?_,?_⟩
 ·refine H.h.new fun b63 K F l q63 h=> ?_
  replace H:=H.up l h
  replace q69:=l _ _ q69
  exact yJ H q63 q69
 ·refine H.h.new fun b66 K F l q66 h=> ?_
  replace H:=H.up l h
  replace q69:=l _ _ q69
  exact yK H q66 q69
 ·refine H.h.run (fun G _=>aH 0 (by decide) G) fun _ K F hr l h=> ?_
  replace H:=H.up l h
  replace q69:=l _ _ q69
  obtain ⟨_,rfl,hw⟩:=hr
  obtain ⟨m70,rfl,h70⟩:=hw.out
  refine ⟨_,rfl,?_⟩
  refine ⟨H.row,?_⟩
  refine ⟨H.row,?_⟩
  exact qi H h70 q69
theorem yQ (H:EK K0 K F b0 b1 b2 n) {m70:Sl} (h70:RL K m70 (dia (tv 0)).1) {b63:Nat} (q63:K b63=some (.cells #[vi 4] 3)):pq #[Sl.v n,vi aF.2] #[Sl.v n,vi aF.2] #[Sl.v m70,vi (dia (tv 0)).2] b2 b63 b1 b0 (bM K0) F:=by
 unfold pq
 refine ⟨rfl,?_⟩
 refine ⟨?_,?_,?_⟩
 ·refine H.h.new fun b66 K F l q66 h=> ?_
  replace H:=H.up l h
  replace h70:=h70.le l
  replace q63:=l _ _ q63
  exact pU H h70 q63 q66
 ·refine H.h.new fun b69 K F l q69 h=> ?_
  replace H:=H.up l h
  replace h70:=h70.le l
  replace q63:=l _ _ q63
  exact ic H h70 q63 q69
 ·refine H.h.run (fun G hl=>ba (x:=0) (by decide) ((DV.mk h70).le hl)) fun _ K F hr l h=> ?_
  replace H:=H.up l h
  replace h70:=h70.le l
  replace q63:=l _ _ q63
  obtain ⟨_,rfl,hw⟩:=hr
  obtain ⟨m71,rfl,h71⟩:=hw.out
  refine ⟨_,rfl,?_⟩
  refine ⟨H.row,?_⟩
  refine ⟨H.row,?_⟩
  exact pW H h71 q63
theorem yR (H:EK K0 K F b0 b1 b2 n) {m70:Sl} (h70:RL K m70 (dia (tv 0)).1) {b66:Nat} (q66:K b66=some (.cells #[vi 1] 3)):pu #[Sl.v n,vi aF.2] #[Sl.v n,vi aF.2] #[Sl.v m70,vi (dia (tv 0)).2] b2 b66 b1 b0 (bM K0) F:=by
 unfold pu
 refine ⟨rfl,?_⟩
 refine ⟨?_,?_,?_⟩
 ·refine H.h.new fun b63 K F l q63 h=> ?_
  replace H:=H.up l h
  replace h70:=h70.le l
  replace q66:=l _ _ q66
  exact p9 H h70 q63 q66
 ·refine H.h.new fun b69 K F l q69 h=> ?_
  replace H:=H.up l h
  replace h70:=h70.le l
  replace q66:=l _ _ q66
  exact ig H h70 q66 q69
 ·refine H.h.run (fun G hl=>ba (x:=0) (by decide) ((DV.mk h70).le hl)) fun _ K F hr l h=> ?_
  replace H:=H.up l h
  replace h70:=h70.le l
  replace q66:=l _ _ q66
  obtain ⟨_,rfl,hw⟩:=hr
  obtain ⟨m71,rfl,h71⟩:=hw.out
  refine ⟨_,rfl,?_⟩
  refine ⟨H.row,?_⟩
  refine ⟨H.row,?_⟩
  exact qe H h71 q66
theorem yS (H:EK K0 K F b0 b1 b2 n) {m71:Sl} (h71:RL K m71 (cE 0).1) {b63:Nat} (q63:K b63=some (.cells #[vi 4] 3)):pv #[Sl.v n,vi aF.2] #[Sl.v n,vi aF.2] #[Sl.v m71,vi (cE 0).2] b63 b1 b0 (bM K0) F:=by
 unfold pv
 refine ⟨rfl,?_⟩
 refine ⟨?_,?_⟩
 ·refine H.h.new fun b66 K F l q66 h=> ?_
  replace H:=H.up l h
  replace h71:=h71.le l
  replace q63:=l _ _ q63
  exact pV H h71 q63 q66
 ·refine H.h.new fun b69 K F l q69 h=> ?_
  replace H:=H.up l h
  replace h71:=h71.le l
  replace q63:=l _ _ q63
  exact ib H h71 q63 q69
theorem yT (H:EK K0 K F b0 b1 b2 n) {m71:Sl} (h71:RL K m71 (cE 0).1) {b66:Nat} (q66:K b66=some (.cells #[vi 1] 3)):px #[Sl.v n,vi aF.2] #[Sl.v n,vi aF.2] #[Sl.v m71,vi (cE 0).2] b66 b1 b0 (bM K0) F:=by
 unfold px
 refine ⟨rfl,?_⟩
 refine ⟨?_,?_⟩
 ·refine H.h.new fun b63 K F l q63 h=> ?_
  replace H:=H.up l h
  replace h71:=h71.le l
  replace q66:=l _ _ q66
  exact qa H h71 q63 q66
 ·refine H.h.new fun b69 K F l q69 h=> ?_
  replace H:=H.up l h
  replace h71:=h71.le l
  replace q66:=l _ _ q66
  exact ie H h71 q66 q69
theorem yU (H:EK K0 K F b0 b1 b2 n) {m71:Sl} (h71:RL K m71 (cE 0).1):py #[Sl.v n,vi aF.2] #[Sl.v n,vi aF.2] #[Sl.v m71,vi (cE 0).2] b1 b0 (bM K0) F:=by
 unfold py
 refine ⟨?_,?_,?_⟩
 ·refine H.h.new fun b63 K F l q63 h=> ?_
  replace H:=H.up l h
  replace h71:=h71.le l
  exact yS H h71 q63
 ·refine H.h.new fun b66 K F l q66 h=> ?_
  replace H:=H.up l h
  replace h71:=h71.le l
  exact yT H h71 q66
 ·refine H.h.new fun b69 K F l q69 h=> ?_
  replace H:=H.up l h
  replace h71:=h71.le l
  exact qh H h71 q69
theorem yV (H:EK K0 K F b0 b1 b2 n) {m70:Sl} (h70:RL K m70 (dia (tv 0)).1):pz #[Sl.v n,vi aF.2] #[Sl.v n,vi aF.2] #[Sl.v m70,vi (dia (tv 0)).2] b2 b1 b0 (bM K0) F:=by
 unfold pz
 refine ⟨?_,?_,?_,?_⟩
 ·refine H.h.new fun b63 K F l q63 h=> ?_
  replace H:=H.up l h
  replace h70:=h70.le l
  exact yQ H h70 q63
 ·refine H.h.new fun b66 K F l q66 h=> ?_
  replace H:=H.up l h
  replace h70:=h70.le l
  exact yR H h70 q66
 ·refine H.h.new fun b69 K F l q69 h=> ?_
  replace H:=H.up l h
  replace h70:=h70.le l
  exact qi H h70 q69
 ·refine H.h.run (fun G hl=>ba (x:=0) (by decide) ((DV.mk h70).le hl)) fun _ K F hr l h=> ?_
  replace H:=H.up l h
  replace h70:=h70.le l
  obtain ⟨_,rfl,hw⟩:=hr
  obtain ⟨m71,rfl,h71⟩:=hw.out
  refine ⟨_,rfl,?_⟩
  refine ⟨H.row,?_⟩
  refine ⟨H.row,?_⟩
  exact yU H h71
end
theorem kB (F:PH):ac prog 107 #[] F fun r F'=>(∃w,r=.agg w∧GV F' w cQ)∧F.le F':=by
 refine Nj ?_
 unfold GB
 refine fo F [⟨#[69]⟩] rfl rfl fun b0 b1 F1 h=> ?_
 refine h.allv fun b2 K1 F2 n l1 q hn h=> ?_
 refine h.rule3 (dw 0) (ca 1) (dw 0) (by decide) fun F2 h=> ?_
 refine h.rule3 (dw 0) (ca 2) (dw 0) (by decide) fun F2 h=> ?_
 refine h.rule3 (ca 3) (dw 0) (ca 4) (by decide) fun F2 h=> ?_
 refine h.rule1 (ca 0) (by decide) fun F2 h=> ?_
 refine h.rule3 (dw 0) (ca 8) (dw 0) (by decide) fun F2 h=> ?_
 refine h.brk 2 rfl fun F2 h=> ?_
 refine h.cnd 4 rfl 1 (by decide) fun F2 h=> ?_
 refine ⟨_,rfl,ai (h.le _ _ q),_,rfl,ai (h.le _ _ q),?_⟩
 have H:EK F _ _ b0 b1 b2 n:=⟨h,l1,q,hn⟩
 refine ⟨?_,?_,?_,?_⟩
 ·refine H.h.new fun b63 K F l q63 h=> ?_
  replace H:=H.up l h
  exact Av H q63
 ·refine H.h.new fun b66 K F l q66 h=> ?_
  replace H:=H.up l h
  exact yI H q66
 ·refine H.h.new fun b69 K F l q69 h=> ?_
  replace H:=H.up l h
  exact yP H q69
 ·refine H.h.run (fun G _=>aH 0 (by decide) G) fun _ K F hr l h=> ?_
  replace H:=H.up l h
  obtain ⟨_,rfl,hw⟩:=hr
  obtain ⟨m70,rfl,h70⟩:=hw.out
  refine ⟨_,rfl,?_⟩
  refine ⟨H.row,?_⟩
  refine ⟨H.row,?_⟩
  exact yV H h70
noncomputable def bO (k:Nat):Gr:=if k=0 then cQ else if k=1 then ci else if k=2 then dT else if k=3 then lS else if k=4 then jq else jr
theorem uL (k:Nat) (F:PH):ac prog 37 #[.int .u8 (k:Int)] F fun r F'=>(∃w,r=.agg w∧GV F' w (bO (k % 6)))∧F.le F':=by
 refine PC ?_
 unfold M9
 refine (St.start F).new fun b F1 h=> ?_
 have e:Int.tmod (k:Int) 6=((k % 6:Nat):Int):=by rw [Int.tmod_eq_emod_of_nonneg (by omega)];omega
 rw [e]
 have hk:k % 6<6:=Nat.mod_lt _ (by decide)
 generalize k % 6=j at*
 have fin:∀{v:Value} {G F1:PH},F.le G→(∃w,v=Value.agg w∧GV G w (bO j))→St G F1 [pt b (.cells zG 39)]→∃w:Array Value,v=Value.agg w∧av F1 (Addr.mk b 0 none) 9 w fun F2=>∃w:Array Value,w.size=9∧F2.row (Addr.mk b 0 none) w∧((∃w',Value.agg w=Value.agg w'∧GV F2 w' (bO j))∧F.le F2):=fun {v G F1} hl hv h=>by
  obtain ⟨w,rfl,hv⟩:=hv
  exact ⟨w,rfl,h.put0 (w':=w) hv.size rfl hv.st fun F2 h=>⟨w,hv.size,h.whole0,⟨w,rfl,hv.le h.le⟩,aa hl h.le⟩⟩
 refine ⟨fun h0=> ?_,fun h0=>⟨fun h1=> ?_,fun h1=>⟨fun h2=> ?_,fun h2=>⟨fun h3=> ?_,fun h3=>⟨fun h4=> ?_,fun h4=> ?_⟩⟩⟩⟩⟩
 ·obtain rfl:j=0:=by omega
  exact h.run (kB _) fun _ G F2 hr l h=>fin l hr h
 ·obtain rfl:j=1:=by omega
  exact h.run (lH _) fun _ G F2 hr l h=>fin l hr h
 ·obtain rfl:j=2:=by omega
  exact h.run (js _) fun _ G F2 hr l h=>fin l hr h
 ·obtain rfl:j=3:=by omega
  exact h.run (tx _) fun _ G F2 hr l h=>fin l hr h
 ·obtain rfl:j=4:=by omega
  exact h.run (rj _) fun _ G F2 hr l h=>fin l hr h
 ·obtain rfl:j=5:=by omega
  exact h.run (rn _) fun _ G F2 hr l h=>fin l hr h
end Go.Proofs.YtenpmjhnhepfdaaGreatDoor
