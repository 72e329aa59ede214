/-
  Known grammars with levels and filters; all of them. Printed by a program (mkIf.py).
-/
import Derived.Test.YtenpmjhnhepfdaaGreatDoorIe
namespace Go.Proofs.YtenpmjhnhepfdaaGreatDoor
open Go Go.Proofs.Tryz Tr
set_option maxRecDepth 10000
theorem dk {F:PH} {b:Nat} {e:TypeId} {x:Int} (q:F b=some (.cells #[vi x] e)):RL F (Sl.mk (some (Addr.mk b 0 none)) 1 1) [x]:=RL.ints.2 (RdS.new q rfl rfl (Nat.le_refl _))
theorem mI {F:PH} {x:Fi} {t n:Sl} (ht:RL F t x.toks) (hn:RL F n x.cond.1):Mem.rep F x (x.arr t n):=⟨t,n,rfl,ht,hn⟩
theorem dE {F:PH} {x:Lv} {p n:Sl} (hp:RL F p x.ps) (hn:RL F n x.cond.1):Mem.rep F x (x.arr p n):=⟨p,n,rfl,hp,hn⟩
theorem rU (F:PH):ac prog 111 #[] F fun r F'=>(∃w,r=.agg w∧GV F' w jI)∧F.le F':=by
 refine N8 ?_
 unfold HM
 refine fL F [⟨#[83]⟩,⟨#[87]⟩,⟨#[86]⟩] rfl rfl fun b0 b1 F1 h=> ?_
 refine h.rule2 (dx 1) (dx 2) (by decide) fun F2 h=> ?_
 refine h.rule1 (ce 0) (by decide) fun F2 h=> ?_
 refine h.rule2 (ce 0) (ce 0) (by decide) fun F2 h=> ?_
 refine h.rule0 (by decide) fun F2 h=> ?_
 refine h.rule2 (ce 0) (dx 2) (by decide) fun F2 h=> ?_
 refine h.rule2 (ce 1) (dx 2) (by decide) fun F2 h=> ?_
 refine h.rank 1 rfl fun F2 h=> ?_
 refine h.cnd 5 rfl 1 (by decide) fun F2 h=> ?_
 refine h.new fun b64 K3 F3 l3 q64 h=> ?_
 refine h.run (fun G _=>aI 0 (by decide) G) fun _ K4 F4 hr l4 h=> ?_
 obtain ⟨_,rfl,hw⟩:=hr
 obtain ⟨m,rfl,hm⟩:=hw.out
 refine ⟨_,rfl,rfl,?_⟩
 refine h.new fun b67 K5 F5 l5 q67 h=> ?_
 refine h.run (fun G _=>aI 1 (by decide) G) fun _ K6 F6 hr l6 h=> ?_
 obtain ⟨_,rfl,hv⟩:=hr
 refine ⟨_,rfl,?_⟩
 refine h.run (fun G hl=>bg (by decide) (hv.le hl)) fun _ K7 F7 hr l7 h=> ?_
 obtain ⟨_,rfl,hw⟩:=hr
 obtain ⟨m',rfl,hm'⟩:=hw.out
 refine ⟨_,rfl,rfl,rfl,rfl,?_⟩
 refine h.new fun b71 K8 F8 l8 q71 h=> ?_
 have l58:=aa l6 (aa l7 l8)
 have l48:=aa l5 l58
 refine h.fils (x:=[⟨3,0,0,0,1,0,[0],dia (tv 0)⟩,⟨4,0,0,0,2,0,[1],cI 1⟩]) ⟨[_,_],.cons (mI (dk (l48 _ _ (l4 _ _ q64))) (hm.le l48)) (.cons (mI (dk (l58 _ _ q67)) (hm'.le l8)) .nil),RdS.new q71 (by kernel_rfl) rfl (Nat.le_refl _)⟩ fun F9 h=> ?_
 exact h.fin (R:=fun r F'=>(∃w,r=.agg w∧GV F' w jI)∧F.le F') fun w F' hv hl=>⟨⟨w,rfl,hv⟩,aa l3 (aa l4 (aa l48 hl))⟩
noncomputable def rV:Gr:={(dG [⟨#[83]⟩,⟨#[67]⟩]) with prods:=cj.prods}
theorem xv {K F F0:PH} {b0 b1 b61 b64:Nat} {g:Gr} {c n t s sp l m v:Sl} {vs:List (Array Value)} (hF:F0.le K) (hg:{g with fils:=[⟨2,0,2,1,0,0,[],dia (tv 0)⟩,⟨5,0,0,0,0,0,[5,6],dia (tv 1)⟩]}=cj)
  (st:St K F [pt b64 (.cells (wr (wr (#[.int .i64 0,.int .i64 0,.int .i64 0,.int .i64 0,.int .i64 0,.int .i64 0,.slice none 0 0,.slice none 0 0,.int .i64 0,.int .i64 0,.int .i64 0,.int .i64 0,.int .i64 0,.int .i64 0,.int .i64 0,.slice none 0 0,.slice none 0 0,.int .i64 0]:Array Value) 0 (wr (Array.setIfInBounds (Array.setIfInBounds (Array.setIfInBounds (#[.int .i64 0,.int .i64 0,.int .i64 0,.int .i64 0,.int .i64 0,.int .i64 0,.slice none 0 0,.slice none 0 0,.int .i64 0]:Array Value) 0 (vi 2)) 2 (vi 2)) 3 (vi 1)) 7 (#[m.v,vi (dia (tv 0)).2]:Array Value).toList).toList) 9 (wr (Array.setIfInBounds (Array.setIfInBounds (#[.int .i64 0,.int .i64 0,.int .i64 0,.int .i64 0,.int .i64 0,.int .i64 0,.slice none 0 0,.slice none 0 0,.int .i64 0]:Array Value) 0 (vi 5)) 6 (Sl.v (Sl.mk (some (Addr.mk b61 0 none)) 2 2))) 7 (#[v.v,vi aH.2]:Array Value).toList).toList) 74),pt b1 (.cells (g.arr c n t s sp l (Sl.mk (some (Addr.mk b64 0 none)) 2 2)) 39),own sp 67 13 (cat vs),pt b0 (.cells zG 39)])
  (hr:cZ K g.prods vs) (hc:RL K c g.conds) (hn:RL K n g.fam.1) (ht:RL K t g.toks) (hs:RL K s g.nons) (hl:RL K l g.lvs) (hm:RL K m (dia (tv 0)).1) (q61:RL K (Sl.mk (some (Addr.mk b61 0 none)) 2 2) [(5:Int),6]):
  nD b0 b1 (fun r F'=>(∃w,r=.agg w∧GV F' w cj)∧F0.le F') F:=by
 unfold nD
 refine ⟨_,st.ld1 rfl,?_⟩
 refine st.run (aI 1 (by decide) _) fun _ K1 F1 hr1 l1 st=> ?_
 obtain ⟨_,rfl,hw⟩:=hr1
 obtain ⟨m1,rfl,hm1⟩:=hw.out
 refine ⟨_,rfl,st.ld1 rfl,_,rfl,by decide,(by show (1:Int)<2;decide),?_⟩
 simp only [aD]
 refine st.putR0 (o:=16) (w':= #[vi 2,vi 0,vi 2,vi 1,vi 0,vi 0,Sl.v Sl.nil,m.v,vi (dia (tv 0)).2,vi 5,vi 0,vi 0,vi 0,vi 0,vi 0,Sl.v (Sl.mk (some (Addr.mk b61 0 none)) 2 2),m1.v,vi (dia (tv 1)).2]) rfl (by simp [aj,Sl.v]) (by rw [dh,dh];show 16+2≤18;decide) (by kernel_rfl) fun F2 st=> ?_
 obtain ⟨K2,l2,⟨H,hA,hH⟩,st⟩:=st.pin
 have q:=hH _ _ hA
 have l12:=aa l1 l2
 have hf:RL K2 (Sl.mk (some (Addr.mk b64 0 none)) 2 2) [(⟨2,0,2,1,0,0,[],dia (tv 0)⟩:Fi),⟨5,0,0,0,0,0,[5,6],dia (tv 1)⟩]:=
  ⟨[_,_],.cons (mI (t:=Sl.nil) (.nil _) (hm.le l12)) (.cons (mI (q61.le l12) (hm1.le l2)) .nil),RdS.new q (by kernel_rfl) rfl (Nat.le_refl _)⟩
 have h:KS K2 F2 b0 b1 cj:=by
  rw [← hg]
  exact ⟨K2,c,n,t,s,sp,l,_,vs,le_refl' _,st,hr.le l12,hc.le l12,hn.le l12,ht.le l12,hs.le l12,hl.le l12,hf⟩
 exact h.fin (R:=fun r F'=>(∃w,r=.agg w∧GV F' w cj)∧F0.le F') fun w F' hv hl=>⟨⟨w,rfl,hv⟩,aa hF (aa l12 hl)⟩
theorem mw (F:PH):ac prog 108 #[] F fun r F'=>(∃w,r=.agg w∧GV F' w cj)∧F.le F':=by
 refine N5 ?_
 unfold HI
 refine fL F [⟨#[83]⟩,⟨#[67]⟩] rfl rfl fun b0 b1 F1 h=> ?_
 refine h.allv fun b2 K1 F2 n l1 q hn h=> ?_
 refine h.rule5 (ce 5) (dx 1) (dx 0) (ce 6) (dx 0) (by decide) fun F2 h=> ?_
 refine h.rule3 (ce 5) (dx 1) (dx 0) (by decide) fun F2 h=> ?_
 refine h.rule2 (dx 1) (ce 7) (by decide) fun F2 h=> ?_
 refine h.rule3 (ce 3) (dx 0) (ce 4) (by decide) fun F2 h=> ?_
 refine h.rule1 (ce 0) (by decide) fun F2 h=> ?_
 refine h.brk 3 rfl fun F2 h=> ?_
 refine ⟨_,rfl,ak (h.le _ _ q),?_⟩
 obtain ⟨G,c,n',t,s,sp,l,f,vs,h⟩:=h
 have hn:=hn.le h.k
 have l1:=aa l1 h.k
 refine ⟨?_,?_⟩
 ·refine h.st.run (aI 0 (by decide) _) fun _ K4 F4 hr l4 st=> ?_
  obtain ⟨_,rfl,hw⟩:=hr
  obtain ⟨m,rfl,hm⟩:=hw.out
  refine ⟨_,rfl,ak (st.le _ _ (l4 _ _ (h.k _ _ q))),rfl,?_⟩
  refine st.newG fun b61 K5 F5 l5 q61 _ st=> ?_
  refine ⟨rfl,rfl,rfl,?_⟩
  refine st.new fun b64 F6 st=> ?_
  refine st.set1 (w':=(rV.arr c n' t s sp l (Sl.mk (some (Addr.mk b64 0 none)) 2 2))) (by show 8<9;decide) rfl fun F7 st=> ?_
  have l45:=aa l4 l5
  exact xv (g:=rV) (aa l1 l45) rfl st (h.r.le l45) (h.c.le l45) (h.n.le l45) (h.t.le l45) (h.s.le l45) (h.l.le l45) (hm.le l5) (RL.ints.2 (RdS.new q61 rfl rfl (Nat.le_refl _)))
 ·refine h.st.newG fun b61 K5 F5 l5 q61 _ st=> ?_
  refine ⟨rfl,?_⟩
  refine st.run (aI 0 (by decide) _) fun _ K4 F4 hr l4 st=> ?_
  obtain ⟨_,rfl,hw⟩:=hr
  obtain ⟨m,rfl,hm⟩:=hw.out
  refine ⟨_,rfl,ak (st.le _ _ (l4 _ _ (l5 _ _ (h.k _ _ q)))),rfl,rfl,rfl,?_⟩
  refine st.new fun b64 F6 st=> ?_
  refine st.set1 (w':=(rV.arr c n' t s sp l (Sl.mk (some (Addr.mk b64 0 none)) 2 2))) (by show 8<9;decide) rfl fun F7 st=> ?_
  have l45:=aa l5 l4
  exact xv (g:=rV) (aa l1 l45) rfl st (h.r.le l45) (h.c.le l45) (h.n.le l45) (h.t.le l45) (h.s.le l45) (h.l.le l45) hm ((RL.ints.2 (RdS.new q61 rfl rfl (Nat.le_refl _))).le l4)
noncomputable def Fz:Gr:={cR with lvs:=[]}
structure EK (K0 K F:PH) (b0 b1 b2:Nat) (n:Sl):Prop where
 h:KS K F b0 b1 Fz
 l:K0.le K
 q:K b2=some (.cells #[Sl.v n,vi aH.2] 33)
 n:RL K n aH.1
theorem EK.up {K0 K F K' F':PH} {b0 b1 b2:Nat} {n:Sl} (H:EK K0 K F b0 b1 b2 n) (l:K.le K') (h:KS K' F' b0 b1 Fz):EK K0 K' F' b0 b1 b2 n:=⟨h,aa H.l l,l _ _ H.q,H.n.le l⟩
theorem EK.row {K0 K F:PH} {b0 b1 b2:Nat} {n:Sl} (H:EK K0 K F b0 b1 b2 n):F.row (Addr.mk b2 0 none) #[Sl.v n,vi aH.2]:=ak (H.h.le _ _ H.q)
section
variable {K0 K F:PH} {b0 b1 b2:Nat} {n:Sl}
abbrev bR (K0:PH):VR:=fun r F'=>(∃w,r=.agg w∧GV F' w cR)∧K0.le F'
theorem Ij (H:EK K0 K F b0 b1 b2 n) {b73:Nat} (hr:RL K (Sl.mk (some (Addr.mk b73 0 none)) 3 3) cR.lvs):kI b1 b73 b0 (bR K0) F:=by
 unfold kI
 refine H.h.lvs hr fun F9 h=> ?_
 unfold yN
 exact h.fin (R:=bR K0) fun w F' hv hl=>⟨⟨w,rfl,hv⟩,aa H.l hl⟩
theorem fI (H:EK K0 K F b0 b1 b2 n) {m71:Sl} (h71:RL K m71 (cI 0).1) {b63:Nat} (q63:K b63=some (.cells #[vi 4] 3)) {b66:Nat} (q66:K b66=some (.cells #[vi 1] 3)) {b69:Nat} (q69:K b69=some (.cells #[vi 0] 3)):ff #[Sl.v m71,vi (cI 0).2] b63 #[Sl.v n,vi aH.2] b66 #[Sl.v n,vi aH.2] b69 b1 b0 (bR K0) F:=by
 unfold ff
 refine ⟨rfl,?_⟩
 refine ⟨rfl,?_⟩
 refine ⟨rfl,?_⟩
 refine ⟨rfl,?_⟩
 refine H.h.new fun b73 K F l q73 h=> ?_
 replace H:=H.up l h
 replace h71:=h71.le l
 replace q63:=l _ _ q63
 replace q66:=l _ _ q66
 replace q69:=l _ _ q69
 exact Ij H ⟨[_,_,_],.cons (dE (dk q63) H.n) (.cons (dE (dk q66) H.n) (.cons (dE (dk q69) h71) .nil)),RdS.new q73 (by kernel_rfl) rfl (Nat.le_refl _)⟩
theorem fJ (H:EK K0 K F b0 b1 b2 n) {m70:Sl} (h70:RL K m70 (dia (tv 0)).1) {b63:Nat} (q63:K b63=some (.cells #[vi 4] 3)) {b66:Nat} (q66:K b66=some (.cells #[vi 1] 3)) {b69:Nat} (q69:K b69=some (.cells #[vi 0] 3)):fg #[Sl.v m70,vi (dia (tv 0)).2] b2 #[Sl.v n,vi aH.2] #[Sl.v n,vi aH.2] b63 b66 b69 b1 b0 (bR K0) F:=by
 unfold fg
 refine H.h.run (fun G hl=>bg (x:=0) (by decide) ((DV.mk h70).le hl)) fun _ K F hr l h=> ?_
 replace H:=H.up l h
 replace h70:=h70.le l
 replace q63:=l _ _ q63
 replace q66:=l _ _ q66
 replace q69:=l _ _ q69
 obtain ⟨_,rfl,hw⟩:=hr
 obtain ⟨m71,rfl,h71⟩:=hw.out
 refine ⟨_,rfl,?_⟩
 refine ⟨H.row,?_⟩
 refine ⟨H.row,?_⟩
 exact fI H h71 q63 q66 q69
theorem t6 (H:EK K0 K F b0 b1 b2 n) {b63:Nat} (q63:K b63=some (.cells #[vi 4] 3)) {b66:Nat} (q66:K b66=some (.cells #[vi 1] 3)) {b69:Nat} (q69:K b69=some (.cells #[vi 0] 3)):nB b2 #[Sl.v n,vi aH.2] #[Sl.v n,vi aH.2] b63 b66 b69 b1 b0 (bR K0) F:=by
 unfold nB
 refine H.h.run (fun G _=>aI 0 (by decide) G) fun _ K F hr l h=> ?_
 replace H:=H.up l h
 replace q63:=l _ _ q63
 replace q66:=l _ _ q66
 replace q69:=l _ _ q69
 obtain ⟨_,rfl,hw⟩:=hr
 obtain ⟨m70,rfl,h70⟩:=hw.out
 refine ⟨_,rfl,?_⟩
 refine ⟨H.row,?_⟩
 refine ⟨H.row,?_⟩
 exact fJ H h70 q63 q66 q69
theorem nX (H:EK K0 K F b0 b1 b2 n) {m71:Sl} (h71:RL K m71 (cI 0).1) {b63:Nat} (q63:K b63=some (.cells #[vi 4] 3)) {b66:Nat} (q66:K b66=some (.cells #[vi 1] 3)):kJ #[Sl.v m71,vi (cI 0).2] b63 #[Sl.v n,vi aH.2] b66 #[Sl.v n,vi aH.2] b1 b0 (bR K0) F:=by
 unfold kJ
 refine H.h.new fun b69 K F l q69 h=> ?_
 replace H:=H.up l h
 replace h71:=h71.le l
 replace q63:=l _ _ q63
 replace q66:=l _ _ q66
 exact fI H h71 q63 q66 q69
theorem t7 (H:EK K0 K F b0 b1 b2 n) {m70:Sl} (h70:RL K m70 (dia (tv 0)).1) {b63:Nat} (q63:K b63=some (.cells #[vi 4] 3)) {b66:Nat} (q66:K b66=some (.cells #[vi 1] 3)):nC #[Sl.v m70,vi (dia (tv 0)).2] b2 #[Sl.v n,vi aH.2] #[Sl.v n,vi aH.2] b63 b66 b1 b0 (bR K0) F:=by
 unfold nC
 refine ⟨?_,?_⟩
 ·refine H.h.new fun b69 K F l q69 h=> ?_
  replace H:=H.up l h
  replace h70:=h70.le l
  replace q63:=l _ _ q63
  replace q66:=l _ _ q66
  exact fJ H h70 q63 q66 q69
 ·refine H.h.run (fun G hl=>bg (x:=0) (by decide) ((DV.mk h70).le hl)) fun _ K F hr l h=> ?_
  replace H:=H.up l h
  replace h70:=h70.le l
  replace q63:=l _ _ q63
  replace q66:=l _ _ q66
  obtain ⟨_,rfl,hw⟩:=hr
  obtain ⟨m71,rfl,h71⟩:=hw.out
  refine ⟨_,rfl,?_⟩
  refine ⟨H.row,?_⟩
  refine ⟨H.row,?_⟩
  exact nX H h71 q63 q66
theorem A0 (H:EK K0 K F b0 b1 b2 n) {b63:Nat} (q63:K b63=some (.cells #[vi 4] 3)) {b66:Nat} (q66:K b66=some (.cells #[vi 1] 3)):tC #[Sl.v n,vi aH.2] b2 #[Sl.v n,vi aH.2] b63 b66 b1 b0 (bR K0) F:=by
 unfold tC
 refine ⟨rfl,?_⟩
 refine ⟨?_,?_⟩
 ·refine H.h.new fun b69 K F l q69 h=> ?_
  replace H:=H.up l h
  replace q63:=l _ _ q63
  replace q66:=l _ _ q66
  exact t6 H q63 q66 q69
 ·refine H.h.run (fun G _=>aI 0 (by decide) G) fun _ K F hr l h=> ?_
  replace H:=H.up l h
  replace q63:=l _ _ q63
  replace q66:=l _ _ q66
  obtain ⟨_,rfl,hw⟩:=hr
  obtain ⟨m70,rfl,h70⟩:=hw.out
  refine ⟨_,rfl,?_⟩
  refine ⟨H.row,?_⟩
  refine ⟨H.row,?_⟩
  exact t7 H h70 q63 q66
theorem qA (H:EK K0 K F b0 b1 b2 n) {b63:Nat} (q63:K b63=some (.cells #[vi 4] 3)) {b66:Nat} (q66:K b66=some (.cells #[vi 1] 3)) {b69:Nat} (q69:K b69=some (.cells #[vi 0] 3)):kK #[Sl.v n,vi aH.2] b2 #[Sl.v n,vi aH.2] b63 b66 b69 b1 b0 (bR K0) F:=by
 unfold kK
 refine ⟨rfl,?_⟩
 refine H.h.run (fun G _=>aI 0 (by decide) G) fun _ K F hr l h=> ?_
 replace H:=H.up l h
 replace q63:=l _ _ q63
 replace q66:=l _ _ q66
 replace q69:=l _ _ q69
 obtain ⟨_,rfl,hw⟩:=hr
 obtain ⟨m70,rfl,h70⟩:=hw.out
 refine ⟨_,rfl,?_⟩
 refine ⟨H.row,?_⟩
 refine ⟨H.row,?_⟩
 exact fJ H h70 q63 q66 q69
theorem qB (H:EK K0 K F b0 b1 b2 n) {m70:Sl} (h70:RL K m70 (dia (tv 0)).1) {b63:Nat} (q63:K b63=some (.cells #[vi 4] 3)) {b66:Nat} (q66:K b66=some (.cells #[vi 1] 3)) {b69:Nat} (q69:K b69=some (.cells #[vi 0] 3)):kL #[Sl.v n,vi aH.2] #[Sl.v m70,vi (dia (tv 0)).2] b2 #[Sl.v n,vi aH.2] b63 b66 b69 b1 b0 (bR K0) F:=by
 unfold kL
 refine ⟨rfl,?_⟩
 refine H.h.run (fun G hl=>bg (x:=0) (by decide) ((DV.mk h70).le hl)) fun _ K F hr l h=> ?_
 replace H:=H.up l h
 replace h70:=h70.le l
 replace q63:=l _ _ q63
 replace q66:=l _ _ q66
 replace q69:=l _ _ q69
 obtain ⟨_,rfl,hw⟩:=hr
 obtain ⟨m71,rfl,h71⟩:=hw.out
 refine ⟨_,rfl,?_⟩
 refine ⟨H.row,?_⟩
 refine ⟨H.row,?_⟩
 exact fI H h71 q63 q66 q69
theorem qC (H:EK K0 K F b0 b1 b2 n) {b63:Nat} (q63:K b63=some (.cells #[vi 4] 3)) {b66:Nat} (q66:K b66=some (.cells #[vi 1] 3)) {b69:Nat} (q69:K b69=some (.cells #[vi 0] 3)) {m71:Sl} (h71:RL K m71 (cI 0).1):kM #[Sl.v n,vi aH.2] b63 #[Sl.v n,vi aH.2] b66 b69 #[Sl.v m71,vi (cI 0).2] b1 b0 (bR K0) F:=by
 unfold kM
 refine ⟨rfl,?_⟩
 refine ⟨rfl,?_⟩
 refine ⟨rfl,?_⟩
 refine ⟨rfl,?_⟩
 refine H.h.new fun b73 K F l q73 h=> ?_
 replace H:=H.up l h
 replace q63:=l _ _ q63
 replace q66:=l _ _ q66
 replace q69:=l _ _ q69
 replace h71:=h71.le l
 exact Ij H ⟨[_,_,_],.cons (dE (dk q63) H.n) (.cons (dE (dk q66) H.n) (.cons (dE (dk q69) h71) .nil)),RdS.new q73 (by kernel_rfl) rfl (Nat.le_refl _)⟩
theorem iA (H:EK K0 K F b0 b1 b2 n) {m71:Sl} (h71:RL K m71 (cI 0).1) {b63:Nat} (q63:K b63=some (.cells #[vi 4] 3)) {b69:Nat} (q69:K b69=some (.cells #[vi 0] 3)):fZ #[Sl.v m71,vi (cI 0).2] #[Sl.v n,vi aH.2] b63 #[Sl.v n,vi aH.2] b69 b1 b0 (bR K0) F:=by
 unfold fZ
 refine ⟨rfl,?_⟩
 refine H.h.new fun b66 K F l q66 h=> ?_
 replace H:=H.up l h
 replace h71:=h71.le l
 replace q63:=l _ _ q63
 replace q69:=l _ _ q69
 exact qC H q63 q66 q69 h71
theorem iB (H:EK K0 K F b0 b1 b2 n) {m70:Sl} (h70:RL K m70 (dia (tv 0)).1) {b63:Nat} (q63:K b63=some (.cells #[vi 4] 3)) {b69:Nat} (q69:K b69=some (.cells #[vi 0] 3)):f7 #[Sl.v n,vi aH.2] #[Sl.v m70,vi (dia (tv 0)).2] b2 #[Sl.v n,vi aH.2] b63 b69 b1 b0 (bR K0) F:=by
 unfold f7
 refine ⟨?_,?_⟩
 ·refine H.h.new fun b66 K F l q66 h=> ?_
  replace H:=H.up l h
  replace h70:=h70.le l
  replace q63:=l _ _ q63
  replace q69:=l _ _ q69
  exact qB H h70 q63 q66 q69
 ·refine H.h.run (fun G hl=>bg (x:=0) (by decide) ((DV.mk h70).le hl)) fun _ K F hr l h=> ?_
  replace H:=H.up l h
  replace h70:=h70.le l
  replace q63:=l _ _ q63
  replace q69:=l _ _ q69
  obtain ⟨_,rfl,hw⟩:=hr
  obtain ⟨m71,rfl,h71⟩:=hw.out
  refine ⟨_,rfl,?_⟩
  refine ⟨H.row,?_⟩
  refine ⟨H.row,?_⟩
  exact iA H h71 q63 q69
theorem zn (H:EK K0 K F b0 b1 b2 n) {b63:Nat} (q63:K b63=some (.cells #[vi 4] 3)) {b69:Nat} (q69:K b69=some (.cells #[vi 0] 3)):pG #[Sl.v n,vi aH.2] b2 #[Sl.v n,vi aH.2] b63 b69 b1 b0 (bR K0) F:=by
 unfold pG
 refine ⟨?_,?_⟩
 ·refine H.h.new fun b66 K F l q66 h=> ?_
  replace H:=H.up l h
  replace q63:=l _ _ q63
  replace q69:=l _ _ q69
  exact qA H q63 q66 q69
 ·refine H.h.run (fun G _=>aI 0 (by decide) G) fun _ K F hr l h=> ?_
  replace H:=H.up l h
  replace q63:=l _ _ q63
  replace q69:=l _ _ q69
  obtain ⟨_,rfl,hw⟩:=hr
  obtain ⟨m70,rfl,h70⟩:=hw.out
  refine ⟨_,rfl,?_⟩
  refine ⟨H.row,?_⟩
  refine ⟨H.row,?_⟩
  exact iB H h70 q63 q69
theorem qD (H:EK K0 K F b0 b1 b2 n) {m70:Sl} (h70:RL K m70 (dia (tv 0)).1) {b63:Nat} (q63:K b63=some (.cells #[vi 4] 3)) {b66:Nat} (q66:K b66=some (.cells #[vi 1] 3)):kN #[Sl.v n,vi aH.2] #[Sl.v m70,vi (dia (tv 0)).2] b2 #[Sl.v n,vi aH.2] b63 b66 b1 b0 (bR K0) F:=by
 unfold kN
 refine ⟨rfl,?_⟩
 refine ⟨?_,?_⟩
 ·refine H.h.new fun b69 K F l q69 h=> ?_
  replace H:=H.up l h
  replace h70:=h70.le l
  replace q63:=l _ _ q63
  replace q66:=l _ _ q66
  exact fJ H h70 q63 q66 q69
 ·refine H.h.run (fun G hl=>bg (x:=0) (by decide) ((DV.mk h70).le hl)) fun _ K F hr l h=> ?_
  replace H:=H.up l h
  replace h70:=h70.le l
  replace q63:=l _ _ q63
  replace q66:=l _ _ q66
  obtain ⟨_,rfl,hw⟩:=hr
  obtain ⟨m71,rfl,h71⟩:=hw.out
  refine ⟨_,rfl,?_⟩
  refine ⟨H.row,?_⟩
  refine ⟨H.row,?_⟩
  exact nX H h71 q63 q66
theorem qE (H:EK K0 K F b0 b1 b2 n) {m71:Sl} (h71:RL K m71 (cI 0).1) {b63:Nat} (q63:K b63=some (.cells #[vi 4] 3)) {b66:Nat} (q66:K b66=some (.cells #[vi 1] 3)):kO #[Sl.v n,vi aH.2] #[Sl.v m71,vi (cI 0).2] b63 #[Sl.v n,vi aH.2] b66 b1 b0 (bR K0) F:=by
 unfold kO
 refine ⟨rfl,?_⟩
 refine H.h.new fun b69 K F l q69 h=> ?_
 replace H:=H.up l h
 replace h71:=h71.le l
 replace q63:=l _ _ q63
 replace q66:=l _ _ q66
 exact fI H h71 q63 q66 q69
theorem qF (H:EK K0 K F b0 b1 b2 n) {m71:Sl} (h71:RL K m71 (cI 0).1) {b63:Nat} (q63:K b63=some (.cells #[vi 4] 3)):kP #[Sl.v n,vi aH.2] #[Sl.v m71,vi (cI 0).2] b63 #[Sl.v n,vi aH.2] b1 b0 (bR K0) F:=by
 unfold kP
 refine ⟨?_,?_⟩
 ·refine H.h.new fun b66 K F l q66 h=> ?_
  replace H:=H.up l h
  replace h71:=h71.le l
  replace q63:=l _ _ q63
  exact qE H h71 q63 q66
 ·refine H.h.new fun b69 K F l q69 h=> ?_
  replace H:=H.up l h
  replace h71:=h71.le l
  replace q63:=l _ _ q63
  exact iA H h71 q63 q69
theorem zo (H:EK K0 K F b0 b1 b2 n) {m70:Sl} (h70:RL K m70 (dia (tv 0)).1) {b63:Nat} (q63:K b63=some (.cells #[vi 4] 3)):pH #[Sl.v n,vi aH.2] #[Sl.v m70,vi (dia (tv 0)).2] b2 #[Sl.v n,vi aH.2] b63 b1 b0 (bR K0) F:=by
 unfold pH
 refine ⟨?_,?_,?_⟩
 ·refine H.h.new fun b66 K F l q66 h=> ?_
  replace H:=H.up l h
  replace h70:=h70.le l
  replace q63:=l _ _ q63
  exact qD H h70 q63 q66
 ·refine H.h.new fun b69 K F l q69 h=> ?_
  replace H:=H.up l h
  replace h70:=h70.le l
  replace q63:=l _ _ q63
  exact iB H h70 q63 q69
 ·refine H.h.run (fun G hl=>bg (x:=0) (by decide) ((DV.mk h70).le hl)) fun _ K F hr l h=> ?_
  replace H:=H.up l h
  replace h70:=h70.le l
  replace q63:=l _ _ q63
  obtain ⟨_,rfl,hw⟩:=hr
  obtain ⟨m71,rfl,h71⟩:=hw.out
  refine ⟨_,rfl,?_⟩
  refine ⟨H.row,?_⟩
  refine ⟨H.row,?_⟩
  exact qF H h71 q63
theorem A1 (H:EK K0 K F b0 b1 b2 n) {b63:Nat} (q63:K b63=some (.cells #[vi 4] 3)):tD #[Sl.v n,vi aH.2] #[Sl.v n,vi aH.2] b2 b63 b1 b0 (bR K0) F:=by
 unfold tD
 refine ⟨rfl,?_⟩
 refine ⟨?_,?_,?_⟩
 ·refine H.h.new fun b66 K F l q66 h=> ?_
  replace H:=H.up l h
  replace q63:=l _ _ q63
  exact A0 H q63 q66
 ·refine H.h.new fun b69 K F l q69 h=> ?_
  replace H:=H.up l h
  replace q63:=l _ _ q63
  exact zn H q63 q69
 ·refine H.h.run (fun G _=>aI 0 (by decide) G) fun _ K F hr l h=> ?_
  replace H:=H.up l h
  replace q63:=l _ _ q63
  obtain ⟨_,rfl,hw⟩:=hr
  obtain ⟨m70,rfl,h70⟩:=hw.out
  refine ⟨_,rfl,?_⟩
  refine ⟨H.row,?_⟩
  refine ⟨H.row,?_⟩
  exact zo H h70 q63
theorem zp (H:EK K0 K F b0 b1 b2 n) {b63:Nat} (q63:K b63=some (.cells #[vi 4] 3)) {b66:Nat} (q66:K b66=some (.cells #[vi 1] 3)):pI #[Sl.v n,vi aH.2] b2 #[Sl.v n,vi aH.2] b63 b66 b1 b0 (bR K0) F:=by
 unfold pI
 refine ⟨rfl,?_⟩
 refine ⟨?_,?_⟩
 ·refine H.h.new fun b69 K F l q69 h=> ?_
  replace H:=H.up l h
  replace q63:=l _ _ q63
  replace q66:=l _ _ q66
  exact t6 H q63 q66 q69
 ·refine H.h.run (fun G _=>aI 0 (by decide) G) fun _ K F hr l h=> ?_
  replace H:=H.up l h
  replace q63:=l _ _ q63
  replace q66:=l _ _ q66
  obtain ⟨_,rfl,hw⟩:=hr
  obtain ⟨m70,rfl,h70⟩:=hw.out
  refine ⟨_,rfl,?_⟩
  refine ⟨H.row,?_⟩
  refine ⟨H.row,?_⟩
  exact t7 H h70 q63 q66
theorem qG (H:EK K0 K F b0 b1 b2 n) {b63:Nat} (q63:K b63=some (.cells #[vi 4] 3)) {b66:Nat} (q66:K b66=some (.cells #[vi 1] 3)) {b69:Nat} (q69:K b69=some (.cells #[vi 0] 3)):kQ #[Sl.v n,vi aH.2] b2 #[Sl.v n,vi aH.2] b63 b66 b69 b1 b0 (bR K0) F:=by
 unfold kQ
 refine ⟨rfl,?_⟩
 refine H.h.run (fun G _=>aI 0 (by decide) G) fun _ K F hr l h=> ?_
 replace H:=H.up l h
 replace q63:=l _ _ q63
 replace q66:=l _ _ q66
 replace q69:=l _ _ q69
 obtain ⟨_,rfl,hw⟩:=hr
 obtain ⟨m70,rfl,h70⟩:=hw.out
 refine ⟨_,rfl,?_⟩
 refine ⟨H.row,?_⟩
 refine ⟨H.row,?_⟩
 exact fJ H h70 q63 q66 q69
theorem qH (H:EK K0 K F b0 b1 b2 n) {m70:Sl} (h70:RL K m70 (dia (tv 0)).1) {b63:Nat} (q63:K b63=some (.cells #[vi 4] 3)) {b66:Nat} (q66:K b66=some (.cells #[vi 1] 3)) {b69:Nat} (q69:K b69=some (.cells #[vi 0] 3)):kR #[Sl.v n,vi aH.2] #[Sl.v m70,vi (dia (tv 0)).2] b2 #[Sl.v n,vi aH.2] b63 b66 b69 b1 b0 (bR K0) F:=by
 unfold kR
 refine ⟨rfl,?_⟩
 refine H.h.run (fun G hl=>bg (x:=0) (by decide) ((DV.mk h70).le hl)) fun _ K F hr l h=> ?_
 replace H:=H.up l h
 replace h70:=h70.le l
 replace q63:=l _ _ q63
 replace q66:=l _ _ q66
 replace q69:=l _ _ q69
 obtain ⟨_,rfl,hw⟩:=hr
 obtain ⟨m71,rfl,h71⟩:=hw.out
 refine ⟨_,rfl,?_⟩
 refine ⟨H.row,?_⟩
 refine ⟨H.row,?_⟩
 exact fI H h71 q63 q66 q69
theorem qI (H:EK K0 K F b0 b1 b2 n) {b63:Nat} (q63:K b63=some (.cells #[vi 4] 3)) {b66:Nat} (q66:K b66=some (.cells #[vi 1] 3)) {b69:Nat} (q69:K b69=some (.cells #[vi 0] 3)) {m71:Sl} (h71:RL K m71 (cI 0).1):kS #[Sl.v n,vi aH.2] b63 b66 #[Sl.v n,vi aH.2] b69 #[Sl.v m71,vi (cI 0).2] b1 b0 (bR K0) F:=by
 unfold kS
 refine ⟨rfl,?_⟩
 refine ⟨rfl,?_⟩
 refine ⟨rfl,?_⟩
 refine ⟨rfl,?_⟩
 refine H.h.new fun b73 K F l q73 h=> ?_
 replace H:=H.up l h
 replace q63:=l _ _ q63
 replace q66:=l _ _ q66
 replace q69:=l _ _ q69
 replace h71:=h71.le l
 exact Ij H ⟨[_,_,_],.cons (dE (dk q63) H.n) (.cons (dE (dk q66) H.n) (.cons (dE (dk q69) h71) .nil)),RdS.new q73 (by kernel_rfl) rfl (Nat.le_refl _)⟩
theorem iC (H:EK K0 K F b0 b1 b2 n) {m71:Sl} (h71:RL K m71 (cI 0).1) {b66:Nat} (q66:K b66=some (.cells #[vi 1] 3)) {b69:Nat} (q69:K b69=some (.cells #[vi 0] 3)):f8 #[Sl.v m71,vi (cI 0).2] #[Sl.v n,vi aH.2] b66 #[Sl.v n,vi aH.2] b69 b1 b0 (bR K0) F:=by
 unfold f8
 refine ⟨rfl,?_⟩
 refine H.h.new fun b63 K F l q63 h=> ?_
 replace H:=H.up l h
 replace h71:=h71.le l
 replace q66:=l _ _ q66
 replace q69:=l _ _ q69
 exact qI H q63 q66 q69 h71
theorem iD (H:EK K0 K F b0 b1 b2 n) {m70:Sl} (h70:RL K m70 (dia (tv 0)).1) {b66:Nat} (q66:K b66=some (.cells #[vi 1] 3)) {b69:Nat} (q69:K b69=some (.cells #[vi 0] 3)):ga #[Sl.v n,vi aH.2] #[Sl.v m70,vi (dia (tv 0)).2] b2 #[Sl.v n,vi aH.2] b66 b69 b1 b0 (bR K0) F:=by
 unfold ga
 refine ⟨?_,?_⟩
 ·refine H.h.new fun b63 K F l q63 h=> ?_
  replace H:=H.up l h
  replace h70:=h70.le l
  replace q66:=l _ _ q66
  replace q69:=l _ _ q69
  exact qH H h70 q63 q66 q69
 ·refine H.h.run (fun G hl=>bg (x:=0) (by decide) ((DV.mk h70).le hl)) fun _ K F hr l h=> ?_
  replace H:=H.up l h
  replace h70:=h70.le l
  replace q66:=l _ _ q66
  replace q69:=l _ _ q69
  obtain ⟨_,rfl,hw⟩:=hr
  obtain ⟨m71,rfl,h71⟩:=hw.out
  refine ⟨_,rfl,?_⟩
  refine ⟨H.row,?_⟩
  refine ⟨H.row,?_⟩
  exact iC H h71 q66 q69
theorem zq (H:EK K0 K F b0 b1 b2 n) {b66:Nat} (q66:K b66=some (.cells #[vi 1] 3)) {b69:Nat} (q69:K b69=some (.cells #[vi 0] 3)):pJ #[Sl.v n,vi aH.2] b2 #[Sl.v n,vi aH.2] b66 b69 b1 b0 (bR K0) F:=by
 unfold pJ
 refine ⟨?_,?_⟩
 ·refine H.h.new fun b63 K F l q63 h=> ?_
  replace H:=H.up l h
  replace q66:=l _ _ q66
  replace q69:=l _ _ q69
  exact qG H q63 q66 q69
 ·refine H.h.run (fun G _=>aI 0 (by decide) G) fun _ K F hr l h=> ?_
  replace H:=H.up l h
  replace q66:=l _ _ q66
  replace q69:=l _ _ q69
  obtain ⟨_,rfl,hw⟩:=hr
  obtain ⟨m70,rfl,h70⟩:=hw.out
  refine ⟨_,rfl,?_⟩
  refine ⟨H.row,?_⟩
  refine ⟨H.row,?_⟩
  exact iD H h70 q66 q69
theorem qJ (H:EK K0 K F b0 b1 b2 n) {m70:Sl} (h70:RL K m70 (dia (tv 0)).1) {b63:Nat} (q63:K b63=some (.cells #[vi 4] 3)) {b66:Nat} (q66:K b66=some (.cells #[vi 1] 3)):kT #[Sl.v n,vi aH.2] #[Sl.v m70,vi (dia (tv 0)).2] b2 #[Sl.v n,vi aH.2] b63 b66 b1 b0 (bR K0) F:=by
 unfold kT
 refine ⟨rfl,?_⟩
 refine ⟨?_,?_⟩
 ·refine H.h.new fun b69 K F l q69 h=> ?_
  replace H:=H.up l h
  replace h70:=h70.le l
  replace q63:=l _ _ q63
  replace q66:=l _ _ q66
  exact fJ H h70 q63 q66 q69
 ·refine H.h.run (fun G hl=>bg (x:=0) (by decide) ((DV.mk h70).le hl)) fun _ K F hr l h=> ?_
  replace H:=H.up l h
  replace h70:=h70.le l
  replace q63:=l _ _ q63
  replace q66:=l _ _ q66
  obtain ⟨_,rfl,hw⟩:=hr
  obtain ⟨m71,rfl,h71⟩:=hw.out
  refine ⟨_,rfl,?_⟩
  refine ⟨H.row,?_⟩
  refine ⟨H.row,?_⟩
  exact nX H h71 q63 q66
theorem qK (H:EK K0 K F b0 b1 b2 n) {m71:Sl} (h71:RL K m71 (cI 0).1) {b63:Nat} (q63:K b63=some (.cells #[vi 4] 3)) {b66:Nat} (q66:K b66=some (.cells #[vi 1] 3)):kU #[Sl.v n,vi aH.2] #[Sl.v m71,vi (cI 0).2] b63 b66 #[Sl.v n,vi aH.2] b1 b0 (bR K0) F:=by
 unfold kU
 refine ⟨rfl,?_⟩
 refine H.h.new fun b69 K F l q69 h=> ?_
 replace H:=H.up l h
 replace h71:=h71.le l
 replace q63:=l _ _ q63
 replace q66:=l _ _ q66
 exact fI H h71 q63 q66 q69
theorem qL (H:EK K0 K F b0 b1 b2 n) {m71:Sl} (h71:RL K m71 (cI 0).1) {b66:Nat} (q66:K b66=some (.cells #[vi 1] 3)):kV #[Sl.v n,vi aH.2] #[Sl.v m71,vi (cI 0).2] b66 #[Sl.v n,vi aH.2] b1 b0 (bR K0) F:=by
 unfold kV
 refine ⟨?_,?_⟩
 ·refine H.h.new fun b63 K F l q63 h=> ?_
  replace H:=H.up l h
  replace h71:=h71.le l
  replace q66:=l _ _ q66
  exact qK H h71 q63 q66
 ·refine H.h.new fun b69 K F l q69 h=> ?_
  replace H:=H.up l h
  replace h71:=h71.le l
  replace q66:=l _ _ q66
  exact iC H h71 q66 q69
theorem zr (H:EK K0 K F b0 b1 b2 n) {m70:Sl} (h70:RL K m70 (dia (tv 0)).1) {b66:Nat} (q66:K b66=some (.cells #[vi 1] 3)):pK #[Sl.v n,vi aH.2] #[Sl.v m70,vi (dia (tv 0)).2] b2 #[Sl.v n,vi aH.2] b66 b1 b0 (bR K0) F:=by
 unfold pK
 refine ⟨?_,?_,?_⟩
 ·refine H.h.new fun b63 K F l q63 h=> ?_
  replace H:=H.up l h
  replace h70:=h70.le l
  replace q66:=l _ _ q66
  exact qJ H h70 q63 q66
 ·refine H.h.new fun b69 K F l q69 h=> ?_
  replace H:=H.up l h
  replace h70:=h70.le l
  replace q66:=l _ _ q66
  exact iD H h70 q66 q69
 ·refine H.h.run (fun G hl=>bg (x:=0) (by decide) ((DV.mk h70).le hl)) fun _ K F hr l h=> ?_
  replace H:=H.up l h
  replace h70:=h70.le l
  replace q66:=l _ _ q66
  obtain ⟨_,rfl,hw⟩:=hr
  obtain ⟨m71,rfl,h71⟩:=hw.out
  refine ⟨_,rfl,?_⟩
  refine ⟨H.row,?_⟩
  refine ⟨H.row,?_⟩
  exact qL H h71 q66
theorem zt (H:EK K0 K F b0 b1 b2 n) {b66:Nat} (q66:K b66=some (.cells #[vi 1] 3)):pM #[Sl.v n,vi aH.2] #[Sl.v n,vi aH.2] b2 b66 b1 b0 (bR K0) F:=by
 unfold pM
 refine ⟨rfl,?_⟩
 refine ⟨?_,?_,?_⟩
 ·refine H.h.new fun b63 K F l q63 h=> ?_
  replace H:=H.up l h
  replace q66:=l _ _ q66
  exact zp H q63 q66
 ·refine H.h.new fun b69 K F l q69 h=> ?_
  replace H:=H.up l h
  replace q66:=l _ _ q66
  exact zq H q66 q69
 ·refine H.h.run (fun G _=>aI 0 (by decide) G) fun _ K F hr l h=> ?_
  replace H:=H.up l h
  replace q66:=l _ _ q66
  obtain ⟨_,rfl,hw⟩:=hr
  obtain ⟨m70,rfl,h70⟩:=hw.out
  refine ⟨_,rfl,?_⟩
  refine ⟨H.row,?_⟩
  refine ⟨H.row,?_⟩
  exact zr H h70 q66
theorem zv (H:EK K0 K F b0 b1 b2 n) {b63:Nat} (q63:K b63=some (.cells #[vi 4] 3)) {b69:Nat} (q69:K b69=some (.cells #[vi 0] 3)):pN #[Sl.v n,vi aH.2] #[Sl.v n,vi aH.2] b2 b63 b69 b1 b0 (bR K0) F:=by
 unfold pN
 refine ⟨rfl,?_⟩
 refine ⟨?_,?_⟩
 ·refine H.h.new fun b66 K F l q66 h=> ?_
  replace H:=H.up l h
  replace q63:=l _ _ q63
  replace q69:=l _ _ q69
  exact qA H q63 q66 q69
 ·refine H.h.run (fun G _=>aI 0 (by decide) G) fun _ K F hr l h=> ?_
  replace H:=H.up l h
  replace q63:=l _ _ q63
  replace q69:=l _ _ q69
  obtain ⟨_,rfl,hw⟩:=hr
  obtain ⟨m70,rfl,h70⟩:=hw.out
  refine ⟨_,rfl,?_⟩
  refine ⟨H.row,?_⟩
  refine ⟨H.row,?_⟩
  exact iB H h70 q63 q69
theorem zw (H:EK K0 K F b0 b1 b2 n) {b66:Nat} (q66:K b66=some (.cells #[vi 1] 3)) {b69:Nat} (q69:K b69=some (.cells #[vi 0] 3)):pO #[Sl.v n,vi aH.2] #[Sl.v n,vi aH.2] b2 b66 b69 b1 b0 (bR K0) F:=by
 unfold pO
 refine ⟨rfl,?_⟩
 refine ⟨?_,?_⟩
 ·refine H.h.new fun b63 K F l q63 h=> ?_
  replace H:=H.up l h
  replace q66:=l _ _ q66
  replace q69:=l _ _ q69
  exact qG H q63 q66 q69
 ·refine H.h.run (fun G _=>aI 0 (by decide) G) fun _ K F hr l h=> ?_
  replace H:=H.up l h
  replace q66:=l _ _ q66
  replace q69:=l _ _ q69
  obtain ⟨_,rfl,hw⟩:=hr
  obtain ⟨m70,rfl,h70⟩:=hw.out
  refine ⟨_,rfl,?_⟩
  refine ⟨H.row,?_⟩
  refine ⟨H.row,?_⟩
  exact iD H h70 q66 q69
theorem zx (H:EK K0 K F b0 b1 b2 n) {m70:Sl} (h70:RL K m70 (dia (tv 0)).1) {b63:Nat} (q63:K b63=some (.cells #[vi 4] 3)) {b69:Nat} (q69:K b69=some (.cells #[vi 0] 3)):pP #[Sl.v n,vi aH.2] #[Sl.v n,vi aH.2] #[Sl.v m70,vi (dia (tv 0)).2] b2 b63 b69 b1 b0 (bR K0) F:=by
 unfold pP
 refine ⟨rfl,?_⟩
 refine ⟨?_,?_⟩
 ·refine H.h.new fun b66 K F l q66 h=> ?_
  replace H:=H.up l h
  replace h70:=h70.le l
  replace q63:=l _ _ q63
  replace q69:=l _ _ q69
  exact qB H h70 q63 q66 q69
 ·refine H.h.run (fun G hl=>bg (x:=0) (by decide) ((DV.mk h70).le hl)) fun _ K F hr l h=> ?_
  replace H:=H.up l h
  replace h70:=h70.le l
  replace q63:=l _ _ q63
  replace q69:=l _ _ q69
  obtain ⟨_,rfl,hw⟩:=hr
  obtain ⟨m71,rfl,h71⟩:=hw.out
  refine ⟨_,rfl,?_⟩
  refine ⟨H.row,?_⟩
  refine ⟨H.row,?_⟩
  exact iA H h71 q63 q69
theorem zy (H:EK K0 K F b0 b1 b2 n) {m70:Sl} (h70:RL K m70 (dia (tv 0)).1) {b66:Nat} (q66:K b66=some (.cells #[vi 1] 3)) {b69:Nat} (q69:K b69=some (.cells #[vi 0] 3)):pQ #[Sl.v n,vi aH.2] #[Sl.v n,vi aH.2] #[Sl.v m70,vi (dia (tv 0)).2] b2 b66 b69 b1 b0 (bR K0) F:=by
 unfold pQ
 refine ⟨rfl,?_⟩
 refine ⟨?_,?_⟩
 ·refine H.h.new fun b63 K F l q63 h=> ?_
  replace H:=H.up l h
  replace h70:=h70.le l
  replace q66:=l _ _ q66
  replace q69:=l _ _ q69
  exact qH H h70 q63 q66 q69
 ·refine H.h.run (fun G hl=>bg (x:=0) (by decide) ((DV.mk h70).le hl)) fun _ K F hr l h=> ?_
  replace H:=H.up l h
  replace h70:=h70.le l
  replace q66:=l _ _ q66
  replace q69:=l _ _ q69
  obtain ⟨_,rfl,hw⟩:=hr
  obtain ⟨m71,rfl,h71⟩:=hw.out
  refine ⟨_,rfl,?_⟩
  refine ⟨H.row,?_⟩
  refine ⟨H.row,?_⟩
  exact iC H h71 q66 q69
theorem zA (H:EK K0 K F b0 b1 b2 n) {b63:Nat} (q63:K b63=some (.cells #[vi 4] 3)) {b69:Nat} (q69:K b69=some (.cells #[vi 0] 3)) {m71:Sl} (h71:RL K m71 (cI 0).1):pR #[Sl.v n,vi aH.2] #[Sl.v n,vi aH.2] b63 b69 #[Sl.v m71,vi (cI 0).2] b1 b0 (bR K0) F:=by
 unfold pR
 refine ⟨rfl,?_⟩
 refine H.h.new fun b66 K F l q66 h=> ?_
 replace H:=H.up l h
 replace q63:=l _ _ q63
 replace q69:=l _ _ q69
 replace h71:=h71.le l
 exact qC H q63 q66 q69 h71
theorem zB (H:EK K0 K F b0 b1 b2 n) {b66:Nat} (q66:K b66=some (.cells #[vi 1] 3)) {b69:Nat} (q69:K b69=some (.cells #[vi 0] 3)) {m71:Sl} (h71:RL K m71 (cI 0).1):pT #[Sl.v n,vi aH.2] #[Sl.v n,vi aH.2] b66 b69 #[Sl.v m71,vi (cI 0).2] b1 b0 (bR K0) F:=by
 unfold pT
 refine ⟨rfl,?_⟩
 refine H.h.new fun b63 K F l q63 h=> ?_
 replace H:=H.up l h
 replace q66:=l _ _ q66
 replace q69:=l _ _ q69
 replace h71:=h71.le l
 exact qI H q63 q66 q69 h71
theorem qM (H:EK K0 K F b0 b1 b2 n) {m71:Sl} (h71:RL K m71 (cI 0).1) {b69:Nat} (q69:K b69=some (.cells #[vi 0] 3)):kW #[Sl.v m71,vi (cI 0).2] #[Sl.v n,vi aH.2] #[Sl.v n,vi aH.2] b69 b1 b0 (bR K0) F:=by
 unfold kW
 refine ⟨rfl,?_⟩
 refine ⟨?_,?_⟩
 ·refine H.h.new fun b63 K F l q63 h=> ?_
  replace H:=H.up l h
  replace h71:=h71.le l
  replace q69:=l _ _ q69
  exact zA H q63 q69 h71
 ·refine H.h.new fun b66 K F l q66 h=> ?_
  replace H:=H.up l h
  replace h71:=h71.le l
  replace q69:=l _ _ q69
  exact zB H q66 q69 h71
theorem qN (H:EK K0 K F b0 b1 b2 n) {m70:Sl} (h70:RL K m70 (dia (tv 0)).1) {b69:Nat} (q69:K b69=some (.cells #[vi 0] 3)):kX #[Sl.v n,vi aH.2] #[Sl.v n,vi aH.2] #[Sl.v m70,vi (dia (tv 0)).2] b2 b69 b1 b0 (bR K0) F:=by
 unfold kX
 refine ⟨?_,?_,?_⟩
 ·refine H.h.new fun b63 K F l q63 h=> ?_
  replace H:=H.up l h
  replace h70:=h70.le l
  replace q69:=l _ _ q69
  exact zx H h70 q63 q69
 ·refine H.h.new fun b66 K F l q66 h=> ?_
  replace H:=H.up l h
  replace h70:=h70.le l
  replace q69:=l _ _ q69
  exact zy H h70 q66 q69
 ·refine H.h.run (fun G hl=>bg (x:=0) (by decide) ((DV.mk h70).le hl)) fun _ K F hr l h=> ?_
  replace H:=H.up l h
  replace h70:=h70.le l
  replace q69:=l _ _ q69
  obtain ⟨_,rfl,hw⟩:=hr
  obtain ⟨m71,rfl,h71⟩:=hw.out
  refine ⟨_,rfl,?_⟩
  refine ⟨H.row,?_⟩
  refine ⟨H.row,?_⟩
  exact qM H h71 q69
theorem zC (H:EK K0 K F b0 b1 b2 n) {b69:Nat} (q69:K b69=some (.cells #[vi 0] 3)):pU #[Sl.v n,vi aH.2] #[Sl.v n,vi aH.2] b2 b69 b1 b0 (bR K0) F:=by
 unfold pU
 refine ⟨?_,?_,?_⟩
 ·refine H.h.new fun b63 K F l q63 h=> ?_
  replace H:=H.up l h
  replace q69:=l _ _ q69
  exact zv H q63 q69
 ·refine H.h.new fun b66 K F l q66 h=> ?_
  replace H:=H.up l h
  replace q69:=l _ _ q69
  exact zw H q66 q69
 ·refine H.h.run (fun G _=>aI 0 (by decide) G) fun _ K F hr l h=> ?_
  replace H:=H.up l h
  replace q69:=l _ _ q69
  obtain ⟨_,rfl,hw⟩:=hr
  obtain ⟨m70,rfl,h70⟩:=hw.out
  refine ⟨_,rfl,?_⟩
  refine ⟨H.row,?_⟩
  refine ⟨H.row,?_⟩
  exact qN H h70 q69
theorem zE (H:EK K0 K F b0 b1 b2 n) {m70:Sl} (h70:RL K m70 (dia (tv 0)).1) {b63:Nat} (q63:K b63=some (.cells #[vi 4] 3)):pV #[Sl.v n,vi aH.2] #[Sl.v n,vi aH.2] #[Sl.v m70,vi (dia (tv 0)).2] b2 b63 b1 b0 (bR K0) F:=by
 unfold pV
 refine ⟨rfl,?_⟩
 refine ⟨?_,?_,?_⟩
 ·refine H.h.new fun b66 K F l q66 h=> ?_
  replace H:=H.up l h
  replace h70:=h70.le l
  replace q63:=l _ _ q63
  exact qD H h70 q63 q66
 ·refine H.h.new fun b69 K F l q69 h=> ?_
  replace H:=H.up l h
  replace h70:=h70.le l
  replace q63:=l _ _ q63
  exact iB H h70 q63 q69
 ·refine H.h.run (fun G hl=>bg (x:=0) (by decide) ((DV.mk h70).le hl)) fun _ K F hr l h=> ?_
  replace H:=H.up l h
  replace h70:=h70.le l
  replace q63:=l _ _ q63
  obtain ⟨_,rfl,hw⟩:=hr
  obtain ⟨m71,rfl,h71⟩:=hw.out
  refine ⟨_,rfl,?_⟩
  refine ⟨H.row,?_⟩
  refine ⟨H.row,?_⟩
  exact qF H h71 q63
theorem zH (H:EK K0 K F b0 b1 b2 n) {m70:Sl} (h70:RL K m70 (dia (tv 0)).1) {b66:Nat} (q66:K b66=some (.cells #[vi 1] 3)):pW #[Sl.v n,vi aH.2] #[Sl.v n,vi aH.2] #[Sl.v m70,vi (dia (tv 0)).2] b2 b66 b1 b0 (bR K0) F:=by
 unfold pW
 refine ⟨rfl,?_⟩
 refine ⟨?_,?_,?_⟩
 ·refine H.h.new fun b63 K F l q63 h=> ?_
  replace H:=H.up l h
  replace h70:=h70.le l
  replace q66:=l _ _ q66
  exact qJ H h70 q63 q66
 ·refine H.h.new fun b69 K F l q69 h=> ?_
  replace H:=H.up l h
  replace h70:=h70.le l
  replace q66:=l _ _ q66
  exact iD H h70 q66 q69
 ·refine H.h.run (fun G hl=>bg (x:=0) (by decide) ((DV.mk h70).le hl)) fun _ K F hr l h=> ?_
  replace H:=H.up l h
  replace h70:=h70.le l
  replace q66:=l _ _ q66
  obtain ⟨_,rfl,hw⟩:=hr
  obtain ⟨m71,rfl,h71⟩:=hw.out
  refine ⟨_,rfl,?_⟩
  refine ⟨H.row,?_⟩
  refine ⟨H.row,?_⟩
  exact qL H h71 q66
theorem zI (H:EK K0 K F b0 b1 b2 n) {m71:Sl} (h71:RL K m71 (cI 0).1) {b63:Nat} (q63:K b63=some (.cells #[vi 4] 3)):pX #[Sl.v n,vi aH.2] #[Sl.v n,vi aH.2] #[Sl.v m71,vi (cI 0).2] b63 b1 b0 (bR K0) F:=by
 unfold pX
 refine ⟨rfl,?_⟩
 refine ⟨?_,?_⟩
 ·refine H.h.new fun b66 K F l q66 h=> ?_
  replace H:=H.up l h
  replace h71:=h71.le l
  replace q63:=l _ _ q63
  exact qE H h71 q63 q66
 ·refine H.h.new fun b69 K F l q69 h=> ?_
  replace H:=H.up l h
  replace h71:=h71.le l
  replace q63:=l _ _ q63
  exact iA H h71 q63 q69
theorem zJ (H:EK K0 K F b0 b1 b2 n) {m71:Sl} (h71:RL K m71 (cI 0).1) {b66:Nat} (q66:K b66=some (.cells #[vi 1] 3)):pY #[Sl.v n,vi aH.2] #[Sl.v n,vi aH.2] #[Sl.v m71,vi (cI 0).2] b66 b1 b0 (bR K0) F:=by
 unfold pY
 refine ⟨rfl,?_⟩
 refine ⟨?_,?_⟩
 ·refine H.h.new fun b63 K F l q63 h=> ?_
  replace H:=H.up l h
  replace h71:=h71.le l
  replace q66:=l _ _ q66
  exact qK H h71 q63 q66
 ·refine H.h.new fun b69 K F l q69 h=> ?_
  replace H:=H.up l h
  replace h71:=h71.le l
  replace q66:=l _ _ q66
  exact iC H h71 q66 q69
theorem zK (H:EK K0 K F b0 b1 b2 n) {m71:Sl} (h71:RL K m71 (cI 0).1):pZ #[Sl.v n,vi aH.2] #[Sl.v n,vi aH.2] #[Sl.v m71,vi (cI 0).2] b1 b0 (bR K0) F:=by
 unfold pZ
 refine ⟨?_,?_,?_⟩
 ·refine H.h.new fun b63 K F l q63 h=> ?_
  replace H:=H.up l h
  replace h71:=h71.le l
  exact zI H h71 q63
 ·refine H.h.new fun b66 K F l q66 h=> ?_
  replace H:=H.up l h
  replace h71:=h71.le l
  exact zJ H h71 q66
 ·refine H.h.new fun b69 K F l q69 h=> ?_
  replace H:=H.up l h
  replace h71:=h71.le l
  exact qM H h71 q69
theorem zM (H:EK K0 K F b0 b1 b2 n) {m70:Sl} (h70:RL K m70 (dia (tv 0)).1):p9 #[Sl.v n,vi aH.2] #[Sl.v n,vi aH.2] #[Sl.v m70,vi (dia (tv 0)).2] b2 b1 b0 (bR K0) F:=by
 unfold p9
 refine ⟨?_,?_,?_,?_⟩
 ·refine H.h.new fun b63 K F l q63 h=> ?_
  replace H:=H.up l h
  replace h70:=h70.le l
  exact zE H h70 q63
 ·refine H.h.new fun b66 K F l q66 h=> ?_
  replace H:=H.up l h
  replace h70:=h70.le l
  exact zH H h70 q66
 ·refine H.h.new fun b69 K F l q69 h=> ?_
  replace H:=H.up l h
  replace h70:=h70.le l
  exact qN H h70 q69
 ·refine H.h.run (fun G hl=>bg (x:=0) (by decide) ((DV.mk h70).le hl)) fun _ K F hr l h=> ?_
  replace H:=H.up l h
  replace h70:=h70.le l
  obtain ⟨_,rfl,hw⟩:=hr
  obtain ⟨m71,rfl,h71⟩:=hw.out
  refine ⟨_,rfl,?_⟩
  refine ⟨H.row,?_⟩
  refine ⟨H.row,?_⟩
  exact zK H h71
end
theorem lw (F:PH):ac prog 107 #[] F fun r F'=>(∃w,r=.agg w∧GV F' w cR)∧F.le F':=by
 refine N4 ?_
 unfold HH
 refine fL F [⟨#[69]⟩] rfl rfl fun b0 b1 F1 h=> ?_
 refine h.allv fun b2 K1 F2 n l1 q hn h=> ?_
 refine h.rule3 (dx 0) (ce 1) (dx 0) (by decide) fun F2 h=> ?_
 refine h.rule3 (dx 0) (ce 2) (dx 0) (by decide) fun F2 h=> ?_
 refine h.rule3 (ce 3) (dx 0) (ce 4) (by decide) fun F2 h=> ?_
 refine h.rule1 (ce 0) (by decide) fun F2 h=> ?_
 refine h.rule3 (dx 0) (ce 8) (dx 0) (by decide) fun F2 h=> ?_
 refine h.brk 2 rfl fun F2 h=> ?_
 refine h.cnd 4 rfl 1 (by decide) fun F2 h=> ?_
 refine ⟨_,rfl,ak (h.le _ _ q),_,rfl,ak (h.le _ _ q),?_⟩
 have H:EK F _ _ b0 b1 b2 n:=⟨h,l1,q,hn⟩
 refine ⟨?_,?_,?_,?_⟩
 ·refine H.h.new fun b63 K F l q63 h=> ?_
  replace H:=H.up l h
  exact A1 H q63
 ·refine H.h.new fun b66 K F l q66 h=> ?_
  replace H:=H.up l h
  exact zt H q66
 ·refine H.h.new fun b69 K F l q69 h=> ?_
  replace H:=H.up l h
  exact zC H q69
 ·refine H.h.run (fun G _=>aI 0 (by decide) G) fun _ K F hr l h=> ?_
  replace H:=H.up l h
  obtain ⟨_,rfl,hw⟩:=hr
  obtain ⟨m70,rfl,h70⟩:=hw.out
  refine ⟨_,rfl,?_⟩
  refine ⟨H.row,?_⟩
  refine ⟨H.row,?_⟩
  exact zM H h70
noncomputable def bS (k:Nat):Gr:=if k=0 then cR else if k=1 then cj else if k=2 then d7 else if k=3 then mJ else if k=4 then jI else jJ
theorem vr (k:Nat) (F:PH):ac prog 37 #[.int .u8 (k:Int)] F fun r F'=>(∃w,r=.agg w∧GV F' w (bS (k % 6)))∧F.le F':=by
 refine QA ?_
 unfold NU
 refine (St.start F).new fun b F1 h=> ?_
 have e:Int.tmod (k:Int) 6=((k % 6:Nat):Int):=by rw [Int.tmod_eq_emod_of_nonneg (by omega)];omega
 rw [e]
 have hk:k % 6<6:=Nat.mod_lt _ (by decide)
 generalize k % 6=j at*
 have fin:∀{v:Value} {G F1:PH},F.le G→(∃w,v=Value.agg w∧GV G w (bS j))→St G F1 [pt b (.cells zG 39)]→∃w:Array Value,v=Value.agg w∧aA F1 (Addr.mk b 0 none) 9 w fun F2=>∃w:Array Value,w.size=9∧F2.row (Addr.mk b 0 none) w∧((∃w',Value.agg w=Value.agg w'∧GV F2 w' (bS j))∧F.le F2):=fun {v G F1} hl hv h=>by
  obtain ⟨w,rfl,hv⟩:=hv
  exact ⟨w,rfl,h.put0 (w':=w) hv.size rfl hv.st fun F2 h=>⟨w,hv.size,h.whole0,⟨w,rfl,hv.le h.le⟩,aa hl h.le⟩⟩
 refine ⟨fun h0=> ?_,fun h0=>⟨fun h1=> ?_,fun h1=>⟨fun h2=> ?_,fun h2=>⟨fun h3=> ?_,fun h3=>⟨fun h4=> ?_,fun h4=> ?_⟩⟩⟩⟩⟩
 ·obtain rfl:j=0:=by omega
  exact h.run (lw _) fun _ G F2 hr l h=>fin l hr h
 ·obtain rfl:j=1:=by omega
  exact h.run (mw _) fun _ G F2 hr l h=>fin l hr h
 ·obtain rfl:j=2:=by omega
  exact h.run (jK _) fun _ G F2 hr l h=>fin l hr h
 ·obtain rfl:j=3:=by omega
  exact h.run (t8 _) fun _ G F2 hr l h=>fin l hr h
 ·obtain rfl:j=4:=by omega
  exact h.run (rU _) fun _ G F2 hr l h=>fin l hr h
 ·obtain rfl:j=5:=by omega
  exact h.run (rX _) fun _ G F2 hr l h=>fin l hr h
end Go.Proofs.YtenpmjhnhepfdaaGreatDoor
