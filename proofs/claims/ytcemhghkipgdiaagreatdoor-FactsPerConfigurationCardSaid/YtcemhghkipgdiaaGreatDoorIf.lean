/-
  Known grammars with levels and filters; all of them. Printed by a program (mkIf.py).
-/
import Derived.Test.YtcemhghkipgdiaaGreatDoorIe
namespace Go.Proofs.YtcemhghkipgdiaaGreatDoor
open Go Go.Proofs.Tryz Tr
set_option maxRecDepth 10000
theorem eX {F:PH} {b:Nat} {e:TypeId} {x:Int} (q:F b=some (.cells #[vi x] e)):RL F (Sl.mk (some (Addr.mk b 0 none)) 1 1) [x]:=RL.ints.2 (RdS.new q rfl rfl (UW _))
theorem oX {F:PH} {x:Fi} {t n:Sl} (ht:RL F t x.toks) (hn:RL F n x.cond.1):Mem.rep F x (x.arr t n):=⟨t,n,rfl,ht,hn⟩
theorem fL {F:PH} {x:Lv} {p n:Sl} (hp:RL F p x.ps) (hn:RL F n x.cond.1):Mem.rep F x (x.arr p n):=⟨p,n,rfl,hp,hn⟩
theorem uK (F:PH):ai prog 133 #[] F λr F'=>(∃w,r=.agg w/\GV F' w gN)/\F.le F':=by refine Rg ?_;unfold Lf;refine gM F [⟨#[83]⟩,⟨#[87]⟩,⟨#[86]⟩] rfl rfl λb0 b1 F1 h=> ?_;refine h.rule2 (eG 1) (eG 2) (by decide) λF2 h=> ?_;refine h.rule1 (cS 0) (by decide) λF2 h=> ?_;refine h.rule2 (cS 0) (cS 0) (by decide) λF2 h=> ?_;refine h.rule0 (by decide) λF2 h=> ?_;refine h.rule2 (cS 0) (eG 2) (by decide) λF2 h=> ?_;refine h.rule2 (cS 1) (eG 2) (by decide) λF2 h=> ?_;refine h.rank 1 rfl λF2 h=> ?_;refine h.cnd 5 rfl 1 (by decide) λF2 h=> ?_;refine h.new λb64 K3 F3 l3 q64 h=> ?_;refine h.run (λG _=>aQ 0 (by decide) G) λ_ K4 F4 hr l4 h=> ?_;obtain ⟨_,rfl,hw⟩:=hr;obtain ⟨m,rfl,hm⟩:=hw.out;refine ⟨_,rfl,rfl,?_⟩;refine h.new λb67 K5 F5 l5 q67 h=> ?_;refine h.run (λG _=>aQ 1 (by decide) G) λ_ K6 F6 hr l6 h=> ?_;obtain ⟨_,rfl,hv⟩:=hr;refine ⟨_,rfl,?_⟩;refine h.run (λG hl=>bC (by decide) (hv.le hl)) λ_ K7 F7 hr l7 h=> ?_;obtain ⟨_,rfl,hw⟩:=hr;obtain ⟨m',rfl,hm'⟩:=hw.out;refine ⟨_,rfl,rfl,rfl,rfl,?_⟩;refine h.new λb71 K8 F8 l8 q71 h=> ?_;have l58:=aa l6 (aa l7 l8);have l48:=aa l5 l58;refine h.fils (x:=[⟨3,0,0,0,1,0,[0],dia (tv 0)⟩,⟨4,0,0,0,2,0,[1],dk 1⟩]) ⟨[_,_],.cons (oX (eX (l48 _ _ (l4 _ _ q64))) (hm.le l48)) (.cons (oX (eX (l58 _ _ q67)) (hm'.le l8)) .nil),RdS.new q71 (by kernel_rfl) rfl (UW _)⟩ λF9 h=> ?_;exact h.fin (R:=λr F'=>(∃w,r=.agg w/\GV F' w gN)/\F.le F') λw F' hv hl=>⟨⟨w,rfl,hv⟩,aa l3 (aa l4 (aa l48 hl))⟩
noncomputable def uL:Gr:={(cI [⟨#[83]⟩,⟨#[67]⟩]) with prods:=ce.prods}
theorem AQ {K F F0:PH} {b0 b1 b61 b64:Nat} {g:Gr} {c n t s sp l m v:Sl} {vs:List Γ} (hF:F0.le K) (hg:{g with fils:=[⟨2,0,2,1,0,0,[],dia (tv 0)⟩,⟨5,0,0,0,0,0,[5,6],dia (tv 1)⟩]}=ce)
  (st:St K F [pt b64 (.cells (wr (wr (#[.int .i64 0,.int .i64 0,.int .i64 0,.int .i64 0,.int .i64 0,.int .i64 0,.slice none 0 0,.slice none 0 0,.int .i64 0,.int .i64 0,.int .i64 0,.int .i64 0,.int .i64 0,.int .i64 0,.int .i64 0,.slice none 0 0,.slice none 0 0,.int .i64 0]:Γ) 0 (wr (Array.setIfInBounds (Array.setIfInBounds (Array.setIfInBounds (#[.int .i64 0,.int .i64 0,.int .i64 0,.int .i64 0,.int .i64 0,.int .i64 0,.slice none 0 0,.slice none 0 0,.int .i64 0]:Γ) 0 (vi 2)) 2 (vi 2)) 3 (vi 1)) 7 (#[m.v,vi (dia (tv 0)).2]:Γ).toList).toList) 9 (wr (Array.setIfInBounds (Array.setIfInBounds (#[.int .i64 0,.int .i64 0,.int .i64 0,.int .i64 0,.int .i64 0,.int .i64 0,.slice none 0 0,.slice none 0 0,.int .i64 0]:Γ) 0 (vi 5)) 6 (Sl.v (Sl.mk (some (Addr.mk b61 0 none)) 2 2))) 7 (#[v.v,vi aP.2]:Γ).toList).toList) 156),pt b1 (.cells (g.arr c n t s sp l (Sl.mk (some (Addr.mk b64 0 none)) 2 2)) 37),own sp 55 13 (cat vs),pt b0 (.cells zG 37)])
  (hr:cN K g.prods vs) (hc:RL K c g.conds) (hn:RL K n g.fam.1) (ht:RL K t g.toks) (hs:RL K s g.nons) (hl:RL K l g.lvs) (hm:RL K m (dia (tv 0)).1) (q61:RL K (Sl.mk (some (Addr.mk b61 0 none)) 2 2) [(5:Int),6]):
  pN b0 b1 (λr F'=>(∃w,r=.agg w/\GV F' w ce)/\F0.le F') F:=by
 unfold pN;refine ⟨_,st.ld1 rfl,?_⟩;refine st.run (aQ 1 (by decide) _) λ_ K1 F1 hr1 l1 st=> ?_;obtain ⟨_,rfl,hw⟩:=hr1;obtain ⟨m1,rfl,hm1⟩:=hw.out;refine ⟨_,rfl,st.ld1 rfl,_,rfl,by decide,(by show (1:Int)<2;decide),?_⟩;simp only [aB];refine st.putR0 (o:=16) (w':= #[vi 2,vi 0,vi 2,vi 1,vi 0,vi 0,Sl.v Sl.nil,m.v,vi (dia (tv 0)).2,vi 5,vi 0,vi 0,vi 0,vi 0,vi 0,Sl.v (Sl.mk (some (Addr.mk b61 0 none)) 2 2),m1.v,vi (dia (tv 1)).2]) rfl (by simp [ak,Sl.v]) (by rw [dW,dW];show 16+2<=18;decide) (by kernel_rfl) λF2 st=> ?_;obtain ⟨K2,l2,⟨H,hA,hH⟩,st⟩:=st.pin;have q:=hH _ _ hA;have l12:=aa l1 l2;have hf:RL K2 (Sl.mk (some (Addr.mk b64 0 none)) 2 2) [(⟨2,0,2,1,0,0,[],dia (tv 0)⟩:Fi),⟨5,0,0,0,0,0,[5,6],dia (tv 1)⟩]:=
  ⟨[_,_],.cons (oX (t:=Sl.nil) (.nil _) (hm.le l12)) (.cons (oX (q61.le l12) (hm1.le l2)) .nil),RdS.new q (by kernel_rfl) rfl (UW _)⟩
 have h:KS K2 F2 b0 b1 ce:=by rw [<- hg];exact ⟨K2,c,n,t,s,sp,l,_,vs,aq _,st,hr.le l12,hc.le l12,hn.le l12,ht.le l12,hs.le l12,hl.le l12,hf⟩
 exact h.fin (R:=λr F'=>(∃w,r=.agg w/\GV F' w ce)/\F0.le F') λw F' hv hl=>⟨⟨w,rfl,hv⟩,aa hF (aa l12 hl)⟩
theorem oN (F:PH):ai prog 130 #[] F λr F'=>(∃w,r=.agg w/\GV F' w ce)/\F.le F':=by
 refine Rd ?_;unfold Lc;refine gM F [⟨#[83]⟩,⟨#[67]⟩] rfl rfl λb0 b1 F1 h=> ?_;refine h.allv λb2 K1 F2 n l1 q hn h=> ?_;refine h.rule5 (cS 5) (eG 1) (eG 0) (cS 6) (eG 0) (by decide) λF2 h=> ?_;refine h.rule3 (cS 5) (eG 1) (eG 0) (by decide) λF2 h=> ?_;refine h.rule2 (eG 1) (cS 7) (by decide) λF2 h=> ?_;refine h.rule3 (cS 3) (eG 0) (cS 4) (by decide) λF2 h=> ?_;refine h.rule1 (cS 0) (by decide) λF2 h=> ?_;refine h.brk 3 rfl λF2 h=> ?_;refine ⟨_,rfl,ac (h.le _ _ q),?_⟩;obtain ⟨G,c,n',t,s,sp,l,f,vs,h⟩:=h;have hn:=hn.le h.k;have l1:=aa l1 h.k;refine ⟨?_,?_⟩
 ·refine h.st.run (aQ 0 (by decide) _) λ_ K4 F4 hr l4 st=> ?_;obtain ⟨_,rfl,hw⟩:=hr;obtain ⟨m,rfl,hm⟩:=hw.out;refine ⟨_,rfl,ac (st.le _ _ (l4 _ _ (h.k _ _ q))),rfl,?_⟩;refine st.newG λb61 K5 F5 l5 q61 _ st=> ?_;refine ⟨rfl,rfl,rfl,?_⟩;refine st.new λb64 F6 st=> ?_;refine st.set1 (w':=(uL.arr c n' t s sp l (Sl.mk (some (Addr.mk b64 0 none)) 2 2))) (by show 8<9;decide) rfl λF7 st=> ?_;have l45:=aa l4 l5;exact AQ (g:=uL) (aa l1 l45) rfl st (h.r.le l45) (h.c.le l45) (h.n.le l45) (h.t.le l45) (h.s.le l45) (h.l.le l45) (hm.le l5) (RL.ints.2 (RdS.new q61 rfl rfl (UW _)))
 ·refine h.st.newG λb61 K5 F5 l5 q61 _ st=> ?_;refine ⟨rfl,?_⟩;refine st.run (aQ 0 (by decide) _) λ_ K4 F4 hr l4 st=> ?_;obtain ⟨_,rfl,hw⟩:=hr;obtain ⟨m,rfl,hm⟩:=hw.out;refine ⟨_,rfl,ac (st.le _ _ (l4 _ _ (l5 _ _ (h.k _ _ q)))),rfl,rfl,rfl,?_⟩;refine st.new λb64 F6 st=> ?_;refine st.set1 (w':=(uL.arr c n' t s sp l (Sl.mk (some (Addr.mk b64 0 none)) 2 2))) (by show 8<9;decide) rfl λF7 st=> ?_;have l45:=aa l5 l4;exact AQ (g:=uL) (aa l1 l45) rfl st (h.r.le l45) (h.c.le l45) (h.n.le l45) (h.t.le l45) (h.s.le l45) (h.l.le l45) hm ((RL.ints.2 (RdS.new q61 rfl rfl (UW _))).le l4)
noncomputable def Jv:Gr:={cD with lvs:=[]}
structure EK (K0 K F:PH) (b0 b1 b2:Nat) (n:Sl):Prop where
 h:KS K F b0 b1 Jv
 l:K0.le K
 q:K b2=some (.cells #[Sl.v n,vi aP.2] 31)
 n:RL K n aP.1
theorem EK.up {K0 K F K' F':PH} {b0 b1 b2:Nat} {n:Sl} (H:EK K0 K F b0 b1 b2 n) (l:K.le K') (h:KS K' F' b0 b1 Jv):EK K0 K' F' b0 b1 b2 n:=⟨h,aa H.l l,l _ _ H.q,H.n.le l⟩
theorem EK.row {K0 K F:PH} {b0 b1 b2:Nat} {n:Sl} (H:EK K0 K F b0 b1 b2 n):F.row (Addr.mk b2 0 none) #[Sl.v n,vi aP.2]:=ac (H.h.le _ _ H.q)
section
variable {K0 K F:PH} {b0 b1 b2:Nat} {n:Sl}
abbrev cy (K0:PH):VR:=λr F'=>(∃w,r=.agg w/\GV F' w cD)/\K0.le F'
theorem LP (H:EK K0 K F b0 b1 b2 n) {b73:Nat} (hr:RL K (Sl.mk (some (Addr.mk b73 0 none)) 3 3) cD.lvs):mq b1 b73 b0 (cy K0) F:=by unfold mq;refine H.h.lvs hr λF9 h=> ?_;unfold BW;exact h.fin (R:=cy K0) λw F' hv hl=>⟨⟨w,rfl,hv⟩,aa H.l hl⟩
theorem gK (H:EK K0 K F b0 b1 b2 n) {m71:Sl} (h71:RL K m71 (dk 0).1) {b63:Nat} (q63:K b63=some (.cells #[vi 4] 3)) {b66:Nat} (q66:K b66=some (.cells #[vi 1] 3)) {b69:Nat} (q69:K b69=some (.cells #[vi 0] 3)):gu #[Sl.v m71,vi (dk 0).2] b63 #[Sl.v n,vi aP.2] b66 #[Sl.v n,vi aP.2] b69 b1 b0 (cy K0) F:=by unfold gu;refine ⟨rfl,?_⟩;refine ⟨rfl,?_⟩;refine ⟨rfl,?_⟩;refine ⟨rfl,?_⟩;refine H.h.new λb73 K F l q73 h=> ?_;replace H:=H.up l h;replace h71:=h71.le l;replace q63:=l _ _ q63;replace q66:=l _ _ q66;replace q69:=l _ _ q69;exact LP H ⟨[_,_,_],.cons (fL (eX q63) H.n) (.cons (fL (eX q66) H.n) (.cons (fL (eX q69) h71) .nil)),RdS.new q73 (by kernel_rfl) rfl (UW _)⟩
theorem gL (H:EK K0 K F b0 b1 b2 n) {m70:Sl} (h70:RL K m70 (dia (tv 0)).1) {b63:Nat} (q63:K b63=some (.cells #[vi 4] 3)) {b66:Nat} (q66:K b66=some (.cells #[vi 1] 3)) {b69:Nat} (q69:K b69=some (.cells #[vi 0] 3)):gx #[Sl.v m70,vi (dia (tv 0)).2] b2 #[Sl.v n,vi aP.2] #[Sl.v n,vi aP.2] b63 b66 b69 b1 b0 (cy K0) F:=by unfold gx;refine H.h.run (λG hl=>bC (x:=0) (by decide) ((DV.mk h70).le hl)) λ_ K F hr l h=> ?_;replace H:=H.up l h;replace h70:=h70.le l;replace q63:=l _ _ q63;replace q66:=l _ _ q66;replace q69:=l _ _ q69;obtain ⟨_,rfl,hw⟩:=hr;obtain ⟨m71,rfl,h71⟩:=hw.out;refine ⟨_,rfl,?_⟩;refine ⟨H.row,?_⟩;refine ⟨H.row,?_⟩;exact gK H h71 q63 q66 q69
theorem wW (H:EK K0 K F b0 b1 b2 n) {b63:Nat} (q63:K b63=some (.cells #[vi 4] 3)) {b66:Nat} (q66:K b66=some (.cells #[vi 1] 3)) {b69:Nat} (q69:K b69=some (.cells #[vi 0] 3)):pL b2 #[Sl.v n,vi aP.2] #[Sl.v n,vi aP.2] b63 b66 b69 b1 b0 (cy K0) F:=by unfold pL;refine H.h.run (λG _=>aQ 0 (by decide) G) λ_ K F hr l h=> ?_;replace H:=H.up l h;replace q63:=l _ _ q63;replace q66:=l _ _ q66;replace q69:=l _ _ q69;obtain ⟨_,rfl,hw⟩:=hr;obtain ⟨m70,rfl,h70⟩:=hw.out;refine ⟨_,rfl,?_⟩;refine ⟨H.row,?_⟩;refine ⟨H.row,?_⟩;exact gL H h70 q63 q66 q69
theorem qp (H:EK K0 K F b0 b1 b2 n) {m71:Sl} (h71:RL K m71 (dk 0).1) {b63:Nat} (q63:K b63=some (.cells #[vi 4] 3)) {b66:Nat} (q66:K b66=some (.cells #[vi 1] 3)):mv #[Sl.v m71,vi (dk 0).2] b63 #[Sl.v n,vi aP.2] b66 #[Sl.v n,vi aP.2] b1 b0 (cy K0) F:=by unfold mv;refine H.h.new λb69 K F l q69 h=> ?_;replace H:=H.up l h;replace h71:=h71.le l;replace q63:=l _ _ q63;replace q66:=l _ _ q66;exact gK H h71 q63 q66 q69
theorem wX (H:EK K0 K F b0 b1 b2 n) {m70:Sl} (h70:RL K m70 (dia (tv 0)).1) {b63:Nat} (q63:K b63=some (.cells #[vi 4] 3)) {b66:Nat} (q66:K b66=some (.cells #[vi 1] 3)):pM #[Sl.v m70,vi (dia (tv 0)).2] b2 #[Sl.v n,vi aP.2] #[Sl.v n,vi aP.2] b63 b66 b1 b0 (cy K0) F:=by
 unfold pM;refine ⟨?_,?_⟩
 ·refine H.h.new λb69 K F l q69 h=> ?_;replace H:=H.up l h;replace h70:=h70.le l;replace q63:=l _ _ q63;replace q66:=l _ _ q66;exact gL H h70 q63 q66 q69
 ·refine H.h.run (λG hl=>bC (x:=0) (by decide) ((DV.mk h70).le hl)) λ_ K F hr l h=> ?_;replace H:=H.up l h;replace h70:=h70.le l;replace q63:=l _ _ q63;replace q66:=l _ _ q66;obtain ⟨_,rfl,hw⟩:=hr;obtain ⟨m71,rfl,h71⟩:=hw.out;refine ⟨_,rfl,?_⟩;refine ⟨H.row,?_⟩;refine ⟨H.row,?_⟩;exact qp H h71 q63 q66
theorem DK (H:EK K0 K F b0 b1 b2 n) {b63:Nat} (q63:K b63=some (.cells #[vi 4] 3)) {b66:Nat} (q66:K b66=some (.cells #[vi 1] 3)):vS #[Sl.v n,vi aP.2] b2 #[Sl.v n,vi aP.2] b63 b66 b1 b0 (cy K0) F:=by
 unfold vS;refine ⟨rfl,?_⟩;refine ⟨?_,?_⟩
 ·refine H.h.new λb69 K F l q69 h=> ?_;replace H:=H.up l h;replace q63:=l _ _ q63;replace q66:=l _ _ q66;exact wW H q63 q66 q69
 ·refine H.h.run (λG _=>aQ 0 (by decide) G) λ_ K F hr l h=> ?_;replace H:=H.up l h;replace q63:=l _ _ q63;replace q66:=l _ _ q66;obtain ⟨_,rfl,hw⟩:=hr;obtain ⟨m70,rfl,h70⟩:=hw.out;refine ⟨_,rfl,?_⟩;refine ⟨H.row,?_⟩;refine ⟨H.row,?_⟩;exact wX H h70 q63 q66
theorem tf (H:EK K0 K F b0 b1 b2 n) {b63:Nat} (q63:K b63=some (.cells #[vi 4] 3)) {b66:Nat} (q66:K b66=some (.cells #[vi 1] 3)) {b69:Nat} (q69:K b69=some (.cells #[vi 0] 3)):mw #[Sl.v n,vi aP.2] b2 #[Sl.v n,vi aP.2] b63 b66 b69 b1 b0 (cy K0) F:=by unfold mw;refine ⟨rfl,?_⟩;refine H.h.run (λG _=>aQ 0 (by decide) G) λ_ K F hr l h=> ?_;replace H:=H.up l h;replace q63:=l _ _ q63;replace q66:=l _ _ q66;replace q69:=l _ _ q69;obtain ⟨_,rfl,hw⟩:=hr;obtain ⟨m70,rfl,h70⟩:=hw.out;refine ⟨_,rfl,?_⟩;refine ⟨H.row,?_⟩;refine ⟨H.row,?_⟩;exact gL H h70 q63 q66 q69
theorem tj (H:EK K0 K F b0 b1 b2 n) {m70:Sl} (h70:RL K m70 (dia (tv 0)).1) {b63:Nat} (q63:K b63=some (.cells #[vi 4] 3)) {b66:Nat} (q66:K b66=some (.cells #[vi 1] 3)) {b69:Nat} (q69:K b69=some (.cells #[vi 0] 3)):mz #[Sl.v n,vi aP.2] #[Sl.v m70,vi (dia (tv 0)).2] b2 #[Sl.v n,vi aP.2] b63 b66 b69 b1 b0 (cy K0) F:=by unfold mz;refine ⟨rfl,?_⟩;refine H.h.run (λG hl=>bC (x:=0) (by decide) ((DV.mk h70).le hl)) λ_ K F hr l h=> ?_;replace H:=H.up l h;replace h70:=h70.le l;replace q63:=l _ _ q63;replace q66:=l _ _ q66;replace q69:=l _ _ q69;obtain ⟨_,rfl,hw⟩:=hr;obtain ⟨m71,rfl,h71⟩:=hw.out;refine ⟨_,rfl,?_⟩;refine ⟨H.row,?_⟩;refine ⟨H.row,?_⟩;exact gK H h71 q63 q66 q69
theorem tn (H:EK K0 K F b0 b1 b2 n) {b63:Nat} (q63:K b63=some (.cells #[vi 4] 3)) {b66:Nat} (q66:K b66=some (.cells #[vi 1] 3)) {b69:Nat} (q69:K b69=some (.cells #[vi 0] 3)) {m71:Sl} (h71:RL K m71 (dk 0).1):mA #[Sl.v n,vi aP.2] b63 #[Sl.v n,vi aP.2] b66 b69 #[Sl.v m71,vi (dk 0).2] b1 b0 (cy K0) F:=by unfold mA;refine ⟨rfl,?_⟩;refine ⟨rfl,?_⟩;refine ⟨rfl,?_⟩;refine ⟨rfl,?_⟩;refine H.h.new λb73 K F l q73 h=> ?_;replace H:=H.up l h;replace q63:=l _ _ q63;replace q66:=l _ _ q66;replace q69:=l _ _ q69;replace h71:=h71.le l;exact LP H ⟨[_,_,_],.cons (fL (eX q63) H.n) (.cons (fL (eX q66) H.n) (.cons (fL (eX q69) h71) .nil)),RdS.new q73 (by kernel_rfl) rfl (UW _)⟩
theorem jC (H:EK K0 K F b0 b1 b2 n) {m71:Sl} (h71:RL K m71 (dk 0).1) {b63:Nat} (q63:K b63=some (.cells #[vi 4] 3)) {b69:Nat} (q69:K b69=some (.cells #[vi 0] 3)):gY #[Sl.v m71,vi (dk 0).2] #[Sl.v n,vi aP.2] b63 #[Sl.v n,vi aP.2] b69 b1 b0 (cy K0) F:=by unfold gY;refine ⟨rfl,?_⟩;refine H.h.new λb66 K F l q66 h=> ?_;replace H:=H.up l h;replace h71:=h71.le l;replace q63:=l _ _ q63;replace q69:=l _ _ q69;exact tn H q63 q66 q69 h71
theorem jD (H:EK K0 K F b0 b1 b2 n) {m70:Sl} (h70:RL K m70 (dia (tv 0)).1) {b63:Nat} (q63:K b63=some (.cells #[vi 4] 3)) {b69:Nat} (q69:K b69=some (.cells #[vi 0] 3)):gZ #[Sl.v n,vi aP.2] #[Sl.v m70,vi (dia (tv 0)).2] b2 #[Sl.v n,vi aP.2] b63 b69 b1 b0 (cy K0) F:=by
 unfold gZ;refine ⟨?_,?_⟩
 ·refine H.h.new λb66 K F l q66 h=> ?_;replace H:=H.up l h;replace h70:=h70.le l;replace q63:=l _ _ q63;replace q69:=l _ _ q69;exact tj H h70 q63 q66 q69
 ·refine H.h.run (λG hl=>bC (x:=0) (by decide) ((DV.mk h70).le hl)) λ_ K F hr l h=> ?_;replace H:=H.up l h;replace h70:=h70.le l;replace q63:=l _ _ q63;replace q69:=l _ _ q69;obtain ⟨_,rfl,hw⟩:=hr;obtain ⟨m71,rfl,h71⟩:=hw.out;refine ⟨_,rfl,?_⟩;refine ⟨H.row,?_⟩;refine ⟨H.row,?_⟩;exact jC H h71 q63 q69
theorem Co (H:EK K0 K F b0 b1 b2 n) {b63:Nat} (q63:K b63=some (.cells #[vi 4] 3)) {b69:Nat} (q69:K b69=some (.cells #[vi 0] 3)):rF #[Sl.v n,vi aP.2] b2 #[Sl.v n,vi aP.2] b63 b69 b1 b0 (cy K0) F:=by
 unfold rF;refine ⟨?_,?_⟩
 ·refine H.h.new λb66 K F l q66 h=> ?_;replace H:=H.up l h;replace q63:=l _ _ q63;replace q69:=l _ _ q69;exact tf H q63 q66 q69
 ·refine H.h.run (λG _=>aQ 0 (by decide) G) λ_ K F hr l h=> ?_;replace H:=H.up l h;replace q63:=l _ _ q63;replace q69:=l _ _ q69;obtain ⟨_,rfl,hw⟩:=hr;obtain ⟨m70,rfl,h70⟩:=hw.out;refine ⟨_,rfl,?_⟩;refine ⟨H.row,?_⟩;refine ⟨H.row,?_⟩;exact jD H h70 q63 q69
theorem tp (H:EK K0 K F b0 b1 b2 n) {m70:Sl} (h70:RL K m70 (dia (tv 0)).1) {b63:Nat} (q63:K b63=some (.cells #[vi 4] 3)) {b66:Nat} (q66:K b66=some (.cells #[vi 1] 3)):mB #[Sl.v n,vi aP.2] #[Sl.v m70,vi (dia (tv 0)).2] b2 #[Sl.v n,vi aP.2] b63 b66 b1 b0 (cy K0) F:=by
 unfold mB;refine ⟨rfl,?_⟩;refine ⟨?_,?_⟩
 ·refine H.h.new λb69 K F l q69 h=> ?_;replace H:=H.up l h;replace h70:=h70.le l;replace q63:=l _ _ q63;replace q66:=l _ _ q66;exact gL H h70 q63 q66 q69
 ·refine H.h.run (λG hl=>bC (x:=0) (by decide) ((DV.mk h70).le hl)) λ_ K F hr l h=> ?_;replace H:=H.up l h;replace h70:=h70.le l;replace q63:=l _ _ q63;replace q66:=l _ _ q66;obtain ⟨_,rfl,hw⟩:=hr;obtain ⟨m71,rfl,h71⟩:=hw.out;refine ⟨_,rfl,?_⟩;refine ⟨H.row,?_⟩;refine ⟨H.row,?_⟩;exact qp H h71 q63 q66
theorem tq (H:EK K0 K F b0 b1 b2 n) {m71:Sl} (h71:RL K m71 (dk 0).1) {b63:Nat} (q63:K b63=some (.cells #[vi 4] 3)) {b66:Nat} (q66:K b66=some (.cells #[vi 1] 3)):mC #[Sl.v n,vi aP.2] #[Sl.v m71,vi (dk 0).2] b63 #[Sl.v n,vi aP.2] b66 b1 b0 (cy K0) F:=by unfold mC;refine ⟨rfl,?_⟩;refine H.h.new λb69 K F l q69 h=> ?_;replace H:=H.up l h;replace h71:=h71.le l;replace q63:=l _ _ q63;replace q66:=l _ _ q66;exact gK H h71 q63 q66 q69
theorem tu (H:EK K0 K F b0 b1 b2 n) {m71:Sl} (h71:RL K m71 (dk 0).1) {b63:Nat} (q63:K b63=some (.cells #[vi 4] 3)):mD #[Sl.v n,vi aP.2] #[Sl.v m71,vi (dk 0).2] b63 #[Sl.v n,vi aP.2] b1 b0 (cy K0) F:=by
 unfold mD;refine ⟨?_,?_⟩
 ·refine H.h.new λb66 K F l q66 h=> ?_;replace H:=H.up l h;replace h71:=h71.le l;replace q63:=l _ _ q63;exact tq H h71 q63 q66
 ·refine H.h.new λb69 K F l q69 h=> ?_;replace H:=H.up l h;replace h71:=h71.le l;replace q63:=l _ _ q63;exact jC H h71 q63 q69
theorem Cp (H:EK K0 K F b0 b1 b2 n) {m70:Sl} (h70:RL K m70 (dia (tv 0)).1) {b63:Nat} (q63:K b63=some (.cells #[vi 4] 3)):rG #[Sl.v n,vi aP.2] #[Sl.v m70,vi (dia (tv 0)).2] b2 #[Sl.v n,vi aP.2] b63 b1 b0 (cy K0) F:=by
 unfold rG;refine ⟨?_,?_,?_⟩
 ·refine H.h.new λb66 K F l q66 h=> ?_;replace H:=H.up l h;replace h70:=h70.le l;replace q63:=l _ _ q63;exact tp H h70 q63 q66
 ·refine H.h.new λb69 K F l q69 h=> ?_;replace H:=H.up l h;replace h70:=h70.le l;replace q63:=l _ _ q63;exact jD H h70 q63 q69
 ·refine H.h.run (λG hl=>bC (x:=0) (by decide) ((DV.mk h70).le hl)) λ_ K F hr l h=> ?_;replace H:=H.up l h;replace h70:=h70.le l;replace q63:=l _ _ q63;obtain ⟨_,rfl,hw⟩:=hr;obtain ⟨m71,rfl,h71⟩:=hw.out;refine ⟨_,rfl,?_⟩;refine ⟨H.row,?_⟩;refine ⟨H.row,?_⟩;exact tu H h71 q63
theorem DL (H:EK K0 K F b0 b1 b2 n) {b63:Nat} (q63:K b63=some (.cells #[vi 4] 3)):vT #[Sl.v n,vi aP.2] #[Sl.v n,vi aP.2] b2 b63 b1 b0 (cy K0) F:=by
 unfold vT;refine ⟨rfl,?_⟩;refine ⟨?_,?_,?_⟩
 ·refine H.h.new λb66 K F l q66 h=> ?_;replace H:=H.up l h;replace q63:=l _ _ q63;exact DK H q63 q66
 ·refine H.h.new λb69 K F l q69 h=> ?_;replace H:=H.up l h;replace q63:=l _ _ q63;exact Co H q63 q69
 ·refine H.h.run (λG _=>aQ 0 (by decide) G) λ_ K F hr l h=> ?_;replace H:=H.up l h;replace q63:=l _ _ q63;obtain ⟨_,rfl,hw⟩:=hr;obtain ⟨m70,rfl,h70⟩:=hw.out;refine ⟨_,rfl,?_⟩;refine ⟨H.row,?_⟩;refine ⟨H.row,?_⟩;exact Cp H h70 q63
theorem Cq (H:EK K0 K F b0 b1 b2 n) {b63:Nat} (q63:K b63=some (.cells #[vi 4] 3)) {b66:Nat} (q66:K b66=some (.cells #[vi 1] 3)):rH #[Sl.v n,vi aP.2] b2 #[Sl.v n,vi aP.2] b63 b66 b1 b0 (cy K0) F:=by
 unfold rH;refine ⟨rfl,?_⟩;refine ⟨?_,?_⟩
 ·refine H.h.new λb69 K F l q69 h=> ?_;replace H:=H.up l h;replace q63:=l _ _ q63;replace q66:=l _ _ q66;exact wW H q63 q66 q69
 ·refine H.h.run (λG _=>aQ 0 (by decide) G) λ_ K F hr l h=> ?_;replace H:=H.up l h;replace q63:=l _ _ q63;replace q66:=l _ _ q66;obtain ⟨_,rfl,hw⟩:=hr;obtain ⟨m70,rfl,h70⟩:=hw.out;refine ⟨_,rfl,?_⟩;refine ⟨H.row,?_⟩;refine ⟨H.row,?_⟩;exact wX H h70 q63 q66
theorem tw (H:EK K0 K F b0 b1 b2 n) {b63:Nat} (q63:K b63=some (.cells #[vi 4] 3)) {b66:Nat} (q66:K b66=some (.cells #[vi 1] 3)) {b69:Nat} (q69:K b69=some (.cells #[vi 0] 3)):mE #[Sl.v n,vi aP.2] b2 #[Sl.v n,vi aP.2] b63 b66 b69 b1 b0 (cy K0) F:=by unfold mE;refine ⟨rfl,?_⟩;refine H.h.run (λG _=>aQ 0 (by decide) G) λ_ K F hr l h=> ?_;replace H:=H.up l h;replace q63:=l _ _ q63;replace q66:=l _ _ q66;replace q69:=l _ _ q69;obtain ⟨_,rfl,hw⟩:=hr;obtain ⟨m70,rfl,h70⟩:=hw.out;refine ⟨_,rfl,?_⟩;refine ⟨H.row,?_⟩;refine ⟨H.row,?_⟩;exact gL H h70 q63 q66 q69
theorem tz (H:EK K0 K F b0 b1 b2 n) {m70:Sl} (h70:RL K m70 (dia (tv 0)).1) {b63:Nat} (q63:K b63=some (.cells #[vi 4] 3)) {b66:Nat} (q66:K b66=some (.cells #[vi 1] 3)) {b69:Nat} (q69:K b69=some (.cells #[vi 0] 3)):mF #[Sl.v n,vi aP.2] #[Sl.v m70,vi (dia (tv 0)).2] b2 #[Sl.v n,vi aP.2] b63 b66 b69 b1 b0 (cy K0) F:=by unfold mF;refine ⟨rfl,?_⟩;refine H.h.run (λG hl=>bC (x:=0) (by decide) ((DV.mk h70).le hl)) λ_ K F hr l h=> ?_;replace H:=H.up l h;replace h70:=h70.le l;replace q63:=l _ _ q63;replace q66:=l _ _ q66;replace q69:=l _ _ q69;obtain ⟨_,rfl,hw⟩:=hr;obtain ⟨m71,rfl,h71⟩:=hw.out;refine ⟨_,rfl,?_⟩;refine ⟨H.row,?_⟩;refine ⟨H.row,?_⟩;exact gK H h71 q63 q66 q69
theorem tC (H:EK K0 K F b0 b1 b2 n) {b63:Nat} (q63:K b63=some (.cells #[vi 4] 3)) {b66:Nat} (q66:K b66=some (.cells #[vi 1] 3)) {b69:Nat} (q69:K b69=some (.cells #[vi 0] 3)) {m71:Sl} (h71:RL K m71 (dk 0).1):mH #[Sl.v n,vi aP.2] b63 b66 #[Sl.v n,vi aP.2] b69 #[Sl.v m71,vi (dk 0).2] b1 b0 (cy K0) F:=by unfold mH;refine ⟨rfl,?_⟩;refine ⟨rfl,?_⟩;refine ⟨rfl,?_⟩;refine ⟨rfl,?_⟩;refine H.h.new λb73 K F l q73 h=> ?_;replace H:=H.up l h;replace q63:=l _ _ q63;replace q66:=l _ _ q66;replace q69:=l _ _ q69;replace h71:=h71.le l;exact LP H ⟨[_,_,_],.cons (fL (eX q63) H.n) (.cons (fL (eX q66) H.n) (.cons (fL (eX q69) h71) .nil)),RdS.new q73 (by kernel_rfl) rfl (UW _)⟩
theorem jE (H:EK K0 K F b0 b1 b2 n) {m71:Sl} (h71:RL K m71 (dk 0).1) {b66:Nat} (q66:K b66=some (.cells #[vi 1] 3)) {b69:Nat} (q69:K b69=some (.cells #[vi 0] 3)):g0 #[Sl.v m71,vi (dk 0).2] #[Sl.v n,vi aP.2] b66 #[Sl.v n,vi aP.2] b69 b1 b0 (cy K0) F:=by unfold g0;refine ⟨rfl,?_⟩;refine H.h.new λb63 K F l q63 h=> ?_;replace H:=H.up l h;replace h71:=h71.le l;replace q66:=l _ _ q66;replace q69:=l _ _ q69;exact tC H q63 q66 q69 h71
theorem jF (H:EK K0 K F b0 b1 b2 n) {m70:Sl} (h70:RL K m70 (dia (tv 0)).1) {b66:Nat} (q66:K b66=some (.cells #[vi 1] 3)) {b69:Nat} (q69:K b69=some (.cells #[vi 0] 3)):hX #[Sl.v n,vi aP.2] #[Sl.v m70,vi (dia (tv 0)).2] b2 #[Sl.v n,vi aP.2] b66 b69 b1 b0 (cy K0) F:=by
 unfold hX;refine ⟨?_,?_⟩
 ·refine H.h.new λb63 K F l q63 h=> ?_;replace H:=H.up l h;replace h70:=h70.le l;replace q66:=l _ _ q66;replace q69:=l _ _ q69;exact tz H h70 q63 q66 q69
 ·refine H.h.run (λG hl=>bC (x:=0) (by decide) ((DV.mk h70).le hl)) λ_ K F hr l h=> ?_;replace H:=H.up l h;replace h70:=h70.le l;replace q66:=l _ _ q66;replace q69:=l _ _ q69;obtain ⟨_,rfl,hw⟩:=hr;obtain ⟨m71,rfl,h71⟩:=hw.out;refine ⟨_,rfl,?_⟩;refine ⟨H.row,?_⟩;refine ⟨H.row,?_⟩;exact jE H h71 q66 q69
theorem Cr (H:EK K0 K F b0 b1 b2 n) {b66:Nat} (q66:K b66=some (.cells #[vi 1] 3)) {b69:Nat} (q69:K b69=some (.cells #[vi 0] 3)):rI #[Sl.v n,vi aP.2] b2 #[Sl.v n,vi aP.2] b66 b69 b1 b0 (cy K0) F:=by
 unfold rI;refine ⟨?_,?_⟩
 ·refine H.h.new λb63 K F l q63 h=> ?_;replace H:=H.up l h;replace q66:=l _ _ q66;replace q69:=l _ _ q69;exact tw H q63 q66 q69
 ·refine H.h.run (λG _=>aQ 0 (by decide) G) λ_ K F hr l h=> ?_;replace H:=H.up l h;replace q66:=l _ _ q66;replace q69:=l _ _ q69;obtain ⟨_,rfl,hw⟩:=hr;obtain ⟨m70,rfl,h70⟩:=hw.out;refine ⟨_,rfl,?_⟩;refine ⟨H.row,?_⟩;refine ⟨H.row,?_⟩;exact jF H h70 q66 q69
theorem tD (H:EK K0 K F b0 b1 b2 n) {m70:Sl} (h70:RL K m70 (dia (tv 0)).1) {b63:Nat} (q63:K b63=some (.cells #[vi 4] 3)) {b66:Nat} (q66:K b66=some (.cells #[vi 1] 3)):mI #[Sl.v n,vi aP.2] #[Sl.v m70,vi (dia (tv 0)).2] b2 #[Sl.v n,vi aP.2] b63 b66 b1 b0 (cy K0) F:=by
 unfold mI;refine ⟨rfl,?_⟩;refine ⟨?_,?_⟩
 ·refine H.h.new λb69 K F l q69 h=> ?_;replace H:=H.up l h;replace h70:=h70.le l;replace q63:=l _ _ q63;replace q66:=l _ _ q66;exact gL H h70 q63 q66 q69
 ·refine H.h.run (λG hl=>bC (x:=0) (by decide) ((DV.mk h70).le hl)) λ_ K F hr l h=> ?_;replace H:=H.up l h;replace h70:=h70.le l;replace q63:=l _ _ q63;replace q66:=l _ _ q66;obtain ⟨_,rfl,hw⟩:=hr;obtain ⟨m71,rfl,h71⟩:=hw.out;refine ⟨_,rfl,?_⟩;refine ⟨H.row,?_⟩;refine ⟨H.row,?_⟩;exact qp H h71 q63 q66
theorem tE (H:EK K0 K F b0 b1 b2 n) {m71:Sl} (h71:RL K m71 (dk 0).1) {b63:Nat} (q63:K b63=some (.cells #[vi 4] 3)) {b66:Nat} (q66:K b66=some (.cells #[vi 1] 3)):mJ #[Sl.v n,vi aP.2] #[Sl.v m71,vi (dk 0).2] b63 b66 #[Sl.v n,vi aP.2] b1 b0 (cy K0) F:=by unfold mJ;refine ⟨rfl,?_⟩;refine H.h.new λb69 K F l q69 h=> ?_;replace H:=H.up l h;replace h71:=h71.le l;replace q63:=l _ _ q63;replace q66:=l _ _ q66;exact gK H h71 q63 q66 q69
theorem tF (H:EK K0 K F b0 b1 b2 n) {m71:Sl} (h71:RL K m71 (dk 0).1) {b66:Nat} (q66:K b66=some (.cells #[vi 1] 3)):mK #[Sl.v n,vi aP.2] #[Sl.v m71,vi (dk 0).2] b66 #[Sl.v n,vi aP.2] b1 b0 (cy K0) F:=by
 unfold mK;refine ⟨?_,?_⟩
 ·refine H.h.new λb63 K F l q63 h=> ?_;replace H:=H.up l h;replace h71:=h71.le l;replace q66:=l _ _ q66;exact tE H h71 q63 q66
 ·refine H.h.new λb69 K F l q69 h=> ?_;replace H:=H.up l h;replace h71:=h71.le l;replace q66:=l _ _ q66;exact jE H h71 q66 q69
theorem Ct (H:EK K0 K F b0 b1 b2 n) {m70:Sl} (h70:RL K m70 (dia (tv 0)).1) {b66:Nat} (q66:K b66=some (.cells #[vi 1] 3)):rJ #[Sl.v n,vi aP.2] #[Sl.v m70,vi (dia (tv 0)).2] b2 #[Sl.v n,vi aP.2] b66 b1 b0 (cy K0) F:=by
 unfold rJ;refine ⟨?_,?_,?_⟩
 ·refine H.h.new λb63 K F l q63 h=> ?_;replace H:=H.up l h;replace h70:=h70.le l;replace q66:=l _ _ q66;exact tD H h70 q63 q66
 ·refine H.h.new λb69 K F l q69 h=> ?_;replace H:=H.up l h;replace h70:=h70.le l;replace q66:=l _ _ q66;exact jF H h70 q66 q69
 ·refine H.h.run (λG hl=>bC (x:=0) (by decide) ((DV.mk h70).le hl)) λ_ K F hr l h=> ?_;replace H:=H.up l h;replace h70:=h70.le l;replace q66:=l _ _ q66;obtain ⟨_,rfl,hw⟩:=hr;obtain ⟨m71,rfl,h71⟩:=hw.out;refine ⟨_,rfl,?_⟩;refine ⟨H.row,?_⟩;refine ⟨H.row,?_⟩;exact tF H h71 q66
theorem Cv (H:EK K0 K F b0 b1 b2 n) {b66:Nat} (q66:K b66=some (.cells #[vi 1] 3)):rK #[Sl.v n,vi aP.2] #[Sl.v n,vi aP.2] b2 b66 b1 b0 (cy K0) F:=by
 unfold rK;refine ⟨rfl,?_⟩;refine ⟨?_,?_,?_⟩
 ·refine H.h.new λb63 K F l q63 h=> ?_;replace H:=H.up l h;replace q66:=l _ _ q66;exact Cq H q63 q66
 ·refine H.h.new λb69 K F l q69 h=> ?_;replace H:=H.up l h;replace q66:=l _ _ q66;exact Cr H q66 q69
 ·refine H.h.run (λG _=>aQ 0 (by decide) G) λ_ K F hr l h=> ?_;replace H:=H.up l h;replace q66:=l _ _ q66;obtain ⟨_,rfl,hw⟩:=hr;obtain ⟨m70,rfl,h70⟩:=hw.out;refine ⟨_,rfl,?_⟩;refine ⟨H.row,?_⟩;refine ⟨H.row,?_⟩;exact Ct H h70 q66
theorem Cw (H:EK K0 K F b0 b1 b2 n) {b63:Nat} (q63:K b63=some (.cells #[vi 4] 3)) {b69:Nat} (q69:K b69=some (.cells #[vi 0] 3)):rL #[Sl.v n,vi aP.2] #[Sl.v n,vi aP.2] b2 b63 b69 b1 b0 (cy K0) F:=by
 unfold rL;refine ⟨rfl,?_⟩;refine ⟨?_,?_⟩
 ·refine H.h.new λb66 K F l q66 h=> ?_;replace H:=H.up l h;replace q63:=l _ _ q63;replace q69:=l _ _ q69;exact tf H q63 q66 q69
 ·refine H.h.run (λG _=>aQ 0 (by decide) G) λ_ K F hr l h=> ?_;replace H:=H.up l h;replace q63:=l _ _ q63;replace q69:=l _ _ q69;obtain ⟨_,rfl,hw⟩:=hr;obtain ⟨m70,rfl,h70⟩:=hw.out;refine ⟨_,rfl,?_⟩;refine ⟨H.row,?_⟩;refine ⟨H.row,?_⟩;exact jD H h70 q63 q69
theorem Cx (H:EK K0 K F b0 b1 b2 n) {b66:Nat} (q66:K b66=some (.cells #[vi 1] 3)) {b69:Nat} (q69:K b69=some (.cells #[vi 0] 3)):rM #[Sl.v n,vi aP.2] #[Sl.v n,vi aP.2] b2 b66 b69 b1 b0 (cy K0) F:=by
 unfold rM;refine ⟨rfl,?_⟩;refine ⟨?_,?_⟩
 ·refine H.h.new λb63 K F l q63 h=> ?_;replace H:=H.up l h;replace q66:=l _ _ q66;replace q69:=l _ _ q69;exact tw H q63 q66 q69
 ·refine H.h.run (λG _=>aQ 0 (by decide) G) λ_ K F hr l h=> ?_;replace H:=H.up l h;replace q66:=l _ _ q66;replace q69:=l _ _ q69;obtain ⟨_,rfl,hw⟩:=hr;obtain ⟨m70,rfl,h70⟩:=hw.out;refine ⟨_,rfl,?_⟩;refine ⟨H.row,?_⟩;refine ⟨H.row,?_⟩;exact jF H h70 q66 q69
theorem Cy (H:EK K0 K F b0 b1 b2 n) {m70:Sl} (h70:RL K m70 (dia (tv 0)).1) {b63:Nat} (q63:K b63=some (.cells #[vi 4] 3)) {b69:Nat} (q69:K b69=some (.cells #[vi 0] 3)):rN #[Sl.v n,vi aP.2] #[Sl.v n,vi aP.2] #[Sl.v m70,vi (dia (tv 0)).2] b2 b63 b69 b1 b0 (cy K0) F:=by
 unfold rN;refine ⟨rfl,?_⟩;refine ⟨?_,?_⟩
 ·refine H.h.new λb66 K F l q66 h=> ?_;replace H:=H.up l h;replace h70:=h70.le l;replace q63:=l _ _ q63;replace q69:=l _ _ q69;exact tj H h70 q63 q66 q69
 ·refine H.h.run (λG hl=>bC (x:=0) (by decide) ((DV.mk h70).le hl)) λ_ K F hr l h=> ?_;replace H:=H.up l h;replace h70:=h70.le l;replace q63:=l _ _ q63;replace q69:=l _ _ q69;obtain ⟨_,rfl,hw⟩:=hr;obtain ⟨m71,rfl,h71⟩:=hw.out;refine ⟨_,rfl,?_⟩;refine ⟨H.row,?_⟩;refine ⟨H.row,?_⟩;exact jC H h71 q63 q69
theorem Cz (H:EK K0 K F b0 b1 b2 n) {m70:Sl} (h70:RL K m70 (dia (tv 0)).1) {b66:Nat} (q66:K b66=some (.cells #[vi 1] 3)) {b69:Nat} (q69:K b69=some (.cells #[vi 0] 3)):rO #[Sl.v n,vi aP.2] #[Sl.v n,vi aP.2] #[Sl.v m70,vi (dia (tv 0)).2] b2 b66 b69 b1 b0 (cy K0) F:=by
 unfold rO;refine ⟨rfl,?_⟩;refine ⟨?_,?_⟩
 ·refine H.h.new λb63 K F l q63 h=> ?_;replace H:=H.up l h;replace h70:=h70.le l;replace q66:=l _ _ q66;replace q69:=l _ _ q69;exact tz H h70 q63 q66 q69
 ·refine H.h.run (λG hl=>bC (x:=0) (by decide) ((DV.mk h70).le hl)) λ_ K F hr l h=> ?_;replace H:=H.up l h;replace h70:=h70.le l;replace q66:=l _ _ q66;replace q69:=l _ _ q69;obtain ⟨_,rfl,hw⟩:=hr;obtain ⟨m71,rfl,h71⟩:=hw.out;refine ⟨_,rfl,?_⟩;refine ⟨H.row,?_⟩;refine ⟨H.row,?_⟩;exact jE H h71 q66 q69
theorem CA (H:EK K0 K F b0 b1 b2 n) {b63:Nat} (q63:K b63=some (.cells #[vi 4] 3)) {b69:Nat} (q69:K b69=some (.cells #[vi 0] 3)) {m71:Sl} (h71:RL K m71 (dk 0).1):rP #[Sl.v n,vi aP.2] #[Sl.v n,vi aP.2] b63 b69 #[Sl.v m71,vi (dk 0).2] b1 b0 (cy K0) F:=by unfold rP;refine ⟨rfl,?_⟩;refine H.h.new λb66 K F l q66 h=> ?_;replace H:=H.up l h;replace q63:=l _ _ q63;replace q69:=l _ _ q69;replace h71:=h71.le l;exact tn H q63 q66 q69 h71
theorem CB (H:EK K0 K F b0 b1 b2 n) {b66:Nat} (q66:K b66=some (.cells #[vi 1] 3)) {b69:Nat} (q69:K b69=some (.cells #[vi 0] 3)) {m71:Sl} (h71:RL K m71 (dk 0).1):rQ #[Sl.v n,vi aP.2] #[Sl.v n,vi aP.2] b66 b69 #[Sl.v m71,vi (dk 0).2] b1 b0 (cy K0) F:=by unfold rQ;refine ⟨rfl,?_⟩;refine H.h.new λb63 K F l q63 h=> ?_;replace H:=H.up l h;replace q66:=l _ _ q66;replace q69:=l _ _ q69;replace h71:=h71.le l;exact tC H q63 q66 q69 h71
theorem tG (H:EK K0 K F b0 b1 b2 n) {m71:Sl} (h71:RL K m71 (dk 0).1) {b69:Nat} (q69:K b69=some (.cells #[vi 0] 3)):mL #[Sl.v m71,vi (dk 0).2] #[Sl.v n,vi aP.2] #[Sl.v n,vi aP.2] b69 b1 b0 (cy K0) F:=by
 unfold mL;refine ⟨rfl,?_⟩;refine ⟨?_,?_⟩
 ·refine H.h.new λb63 K F l q63 h=> ?_;replace H:=H.up l h;replace h71:=h71.le l;replace q69:=l _ _ q69;exact CA H q63 q69 h71
 ·refine H.h.new λb66 K F l q66 h=> ?_;replace H:=H.up l h;replace h71:=h71.le l;replace q69:=l _ _ q69;exact CB H q66 q69 h71
theorem tH (H:EK K0 K F b0 b1 b2 n) {m70:Sl} (h70:RL K m70 (dia (tv 0)).1) {b69:Nat} (q69:K b69=some (.cells #[vi 0] 3)):mM #[Sl.v n,vi aP.2] #[Sl.v n,vi aP.2] #[Sl.v m70,vi (dia (tv 0)).2] b2 b69 b1 b0 (cy K0) F:=by
 unfold mM;refine ⟨?_,?_,?_⟩
 ·refine H.h.new λb63 K F l q63 h=> ?_;replace H:=H.up l h;replace h70:=h70.le l;replace q69:=l _ _ q69;exact Cy H h70 q63 q69
 ·refine H.h.new λb66 K F l q66 h=> ?_;replace H:=H.up l h;replace h70:=h70.le l;replace q69:=l _ _ q69;exact Cz H h70 q66 q69
 ·refine H.h.run (λG hl=>bC (x:=0) (by decide) ((DV.mk h70).le hl)) λ_ K F hr l h=> ?_;replace H:=H.up l h;replace h70:=h70.le l;replace q69:=l _ _ q69;obtain ⟨_,rfl,hw⟩:=hr;obtain ⟨m71,rfl,h71⟩:=hw.out;refine ⟨_,rfl,?_⟩;refine ⟨H.row,?_⟩;refine ⟨H.row,?_⟩;exact tG H h71 q69
theorem CC (H:EK K0 K F b0 b1 b2 n) {b69:Nat} (q69:K b69=some (.cells #[vi 0] 3)):rR #[Sl.v n,vi aP.2] #[Sl.v n,vi aP.2] b2 b69 b1 b0 (cy K0) F:=by
 unfold rR;refine ⟨?_,?_,?_⟩
 ·refine H.h.new λb63 K F l q63 h=> ?_;replace H:=H.up l h;replace q69:=l _ _ q69;exact Cw H q63 q69
 ·refine H.h.new λb66 K F l q66 h=> ?_;replace H:=H.up l h;replace q69:=l _ _ q69;exact Cx H q66 q69
 ·refine H.h.run (λG _=>aQ 0 (by decide) G) λ_ K F hr l h=> ?_;replace H:=H.up l h;replace q69:=l _ _ q69;obtain ⟨_,rfl,hw⟩:=hr;obtain ⟨m70,rfl,h70⟩:=hw.out;refine ⟨_,rfl,?_⟩;refine ⟨H.row,?_⟩;refine ⟨H.row,?_⟩;exact tH H h70 q69
theorem CD (H:EK K0 K F b0 b1 b2 n) {m70:Sl} (h70:RL K m70 (dia (tv 0)).1) {b63:Nat} (q63:K b63=some (.cells #[vi 4] 3)):rS #[Sl.v n,vi aP.2] #[Sl.v n,vi aP.2] #[Sl.v m70,vi (dia (tv 0)).2] b2 b63 b1 b0 (cy K0) F:=by
 unfold rS;refine ⟨rfl,?_⟩;refine ⟨?_,?_,?_⟩
 ·refine H.h.new λb66 K F l q66 h=> ?_;replace H:=H.up l h;replace h70:=h70.le l;replace q63:=l _ _ q63;exact tp H h70 q63 q66
 ·refine H.h.new λb69 K F l q69 h=> ?_;replace H:=H.up l h;replace h70:=h70.le l;replace q63:=l _ _ q63;exact jD H h70 q63 q69
 ·refine H.h.run (λG hl=>bC (x:=0) (by decide) ((DV.mk h70).le hl)) λ_ K F hr l h=> ?_;replace H:=H.up l h;replace h70:=h70.le l;replace q63:=l _ _ q63;obtain ⟨_,rfl,hw⟩:=hr;obtain ⟨m71,rfl,h71⟩:=hw.out;refine ⟨_,rfl,?_⟩;refine ⟨H.row,?_⟩;refine ⟨H.row,?_⟩;exact tu H h71 q63
theorem CE (H:EK K0 K F b0 b1 b2 n) {m70:Sl} (h70:RL K m70 (dia (tv 0)).1) {b66:Nat} (q66:K b66=some (.cells #[vi 1] 3)):rT #[Sl.v n,vi aP.2] #[Sl.v n,vi aP.2] #[Sl.v m70,vi (dia (tv 0)).2] b2 b66 b1 b0 (cy K0) F:=by
 unfold rT;refine ⟨rfl,?_⟩;refine ⟨?_,?_,?_⟩
 ·refine H.h.new λb63 K F l q63 h=> ?_;replace H:=H.up l h;replace h70:=h70.le l;replace q66:=l _ _ q66;exact tD H h70 q63 q66
 ·refine H.h.new λb69 K F l q69 h=> ?_;replace H:=H.up l h;replace h70:=h70.le l;replace q66:=l _ _ q66;exact jF H h70 q66 q69
 ·refine H.h.run (λG hl=>bC (x:=0) (by decide) ((DV.mk h70).le hl)) λ_ K F hr l h=> ?_;replace H:=H.up l h;replace h70:=h70.le l;replace q66:=l _ _ q66;obtain ⟨_,rfl,hw⟩:=hr;obtain ⟨m71,rfl,h71⟩:=hw.out;refine ⟨_,rfl,?_⟩;refine ⟨H.row,?_⟩;refine ⟨H.row,?_⟩;exact tF H h71 q66
theorem CF (H:EK K0 K F b0 b1 b2 n) {m71:Sl} (h71:RL K m71 (dk 0).1) {b63:Nat} (q63:K b63=some (.cells #[vi 4] 3)):rU #[Sl.v n,vi aP.2] #[Sl.v n,vi aP.2] #[Sl.v m71,vi (dk 0).2] b63 b1 b0 (cy K0) F:=by
 unfold rU;refine ⟨rfl,?_⟩;refine ⟨?_,?_⟩
 ·refine H.h.new λb66 K F l q66 h=> ?_;replace H:=H.up l h;replace h71:=h71.le l;replace q63:=l _ _ q63;exact tq H h71 q63 q66
 ·refine H.h.new λb69 K F l q69 h=> ?_;replace H:=H.up l h;replace h71:=h71.le l;replace q63:=l _ _ q63;exact jC H h71 q63 q69
theorem CG (H:EK K0 K F b0 b1 b2 n) {m71:Sl} (h71:RL K m71 (dk 0).1) {b66:Nat} (q66:K b66=some (.cells #[vi 1] 3)):rV #[Sl.v n,vi aP.2] #[Sl.v n,vi aP.2] #[Sl.v m71,vi (dk 0).2] b66 b1 b0 (cy K0) F:=by
 unfold rV;refine ⟨rfl,?_⟩;refine ⟨?_,?_⟩
 ·refine H.h.new λb63 K F l q63 h=> ?_;replace H:=H.up l h;replace h71:=h71.le l;replace q66:=l _ _ q66;exact tE H h71 q63 q66
 ·refine H.h.new λb69 K F l q69 h=> ?_;replace H:=H.up l h;replace h71:=h71.le l;replace q66:=l _ _ q66;exact jE H h71 q66 q69
theorem CH (H:EK K0 K F b0 b1 b2 n) {m71:Sl} (h71:RL K m71 (dk 0).1):rW #[Sl.v n,vi aP.2] #[Sl.v n,vi aP.2] #[Sl.v m71,vi (dk 0).2] b1 b0 (cy K0) F:=by
 unfold rW;refine ⟨?_,?_,?_⟩
 ·refine H.h.new λb63 K F l q63 h=> ?_;replace H:=H.up l h;replace h71:=h71.le l;exact CF H h71 q63
 ·refine H.h.new λb66 K F l q66 h=> ?_;replace H:=H.up l h;replace h71:=h71.le l;exact CG H h71 q66
 ·refine H.h.new λb69 K F l q69 h=> ?_;replace H:=H.up l h;replace h71:=h71.le l;exact tG H h71 q69
theorem CI (H:EK K0 K F b0 b1 b2 n) {m70:Sl} (h70:RL K m70 (dia (tv 0)).1):rX #[Sl.v n,vi aP.2] #[Sl.v n,vi aP.2] #[Sl.v m70,vi (dia (tv 0)).2] b2 b1 b0 (cy K0) F:=by
 unfold rX;refine ⟨?_,?_,?_,?_⟩
 ·refine H.h.new λb63 K F l q63 h=> ?_;replace H:=H.up l h;replace h70:=h70.le l;exact CD H h70 q63
 ·refine H.h.new λb66 K F l q66 h=> ?_;replace H:=H.up l h;replace h70:=h70.le l;exact CE H h70 q66
 ·refine H.h.new λb69 K F l q69 h=> ?_;replace H:=H.up l h;replace h70:=h70.le l;exact tH H h70 q69
 ·refine H.h.run (λG hl=>bC (x:=0) (by decide) ((DV.mk h70).le hl)) λ_ K F hr l h=> ?_;replace H:=H.up l h;replace h70:=h70.le l;obtain ⟨_,rfl,hw⟩:=hr;obtain ⟨m71,rfl,h71⟩:=hw.out;refine ⟨_,rfl,?_⟩;refine ⟨H.row,?_⟩;refine ⟨H.row,?_⟩;exact CH H h71
end
theorem mX (F:PH):ai prog 129 #[] F λr F'=>(∃w,r=.agg w/\GV F' w cD)/\F.le F':=by
 refine Rc ?_;unfold La;refine gM F [⟨#[69]⟩] rfl rfl λb0 b1 F1 h=> ?_;refine h.allv λb2 K1 F2 n l1 q hn h=> ?_;refine h.rule3 (eG 0) (cS 1) (eG 0) (by decide) λF2 h=> ?_;refine h.rule3 (eG 0) (cS 2) (eG 0) (by decide) λF2 h=> ?_;refine h.rule3 (cS 3) (eG 0) (cS 4) (by decide) λF2 h=> ?_;refine h.rule1 (cS 0) (by decide) λF2 h=> ?_;refine h.rule3 (eG 0) (cS 8) (eG 0) (by decide) λF2 h=> ?_;refine h.brk 2 rfl λF2 h=> ?_;refine h.cnd 4 rfl 1 (by decide) λF2 h=> ?_;refine ⟨_,rfl,ac (h.le _ _ q),_,rfl,ac (h.le _ _ q),?_⟩;have H:EK F _ _ b0 b1 b2 n:=⟨h,l1,q,hn⟩;refine ⟨?_,?_,?_,?_⟩
 ·refine H.h.new λb63 K F l q63 h=> ?_;replace H:=H.up l h;exact DL H q63
 ·refine H.h.new λb66 K F l q66 h=> ?_;replace H:=H.up l h;exact Cv H q66
 ·refine H.h.new λb69 K F l q69 h=> ?_;replace H:=H.up l h;exact CC H q69
 ·refine H.h.run (λG _=>aQ 0 (by decide) G) λ_ K F hr l h=> ?_;replace H:=H.up l h;obtain ⟨_,rfl,hw⟩:=hr;obtain ⟨m70,rfl,h70⟩:=hw.out;refine ⟨_,rfl,?_⟩;refine ⟨H.row,?_⟩;refine ⟨H.row,?_⟩;exact CI H h70
noncomputable def cg (k:Nat):Gr:=if k=0 then cD else if k=1 then ce else if k=2 then dg else if k=3 then jG else if k=4 then gN else gO
theorem yv (k:Nat) (F:PH):ai prog 80 #[.int .u8 (k:Int)] F λr F'=>(∃w,r=.agg w/\GV F' w (cg (k % 6)))/\F.le F':=by
 refine T9 ?_;unfold Q6;refine (St.start F).new λb F1 h=> ?_;have e:Int.tmod (k:Int) 6=((k % 6:Nat):Int):=by rw [VH (by omega)];omega
 rw [e];have hk:k % 6<6:=VU _ (by decide);generalize k % 6=j at*;have fin:∀{v:Value} {G F1:PH},F.le G->(∃w,v=Value.agg w/\GV G w (cg j))->St G F1 [pt b (.cells zG 37)]->∃w:Γ,v=Value.agg w/\au F1 (Addr.mk b 0 none) 9 w λF2=>∃w:Γ,w.size=9/\F2.row (Addr.mk b 0 none) w/\((∃w',Value.agg w=Value.agg w'/\GV F2 w' (cg j))/\F.le F2):=λ{v G F1} hl hv h=>by obtain ⟨w,rfl,hv⟩:=hv;exact ⟨w,rfl,h.put0 (w':=w) hv.size rfl hv.st λF2 h=>⟨w,hv.size,h.whole0,⟨w,rfl,hv.le h.le⟩,aa hl h.le⟩⟩
 refine ⟨λh0=> ?_,λh0=>⟨λh1=> ?_,λh1=>⟨λh2=> ?_,λh2=>⟨λh3=> ?_,λh3=>⟨λh4=> ?_,λh4=> ?_⟩⟩⟩⟩⟩
 ·obtain rfl:j=0:=by omega
  exact h.run (mX _) λ_ G F2 hr l h=>fin l hr h
 ·obtain rfl:j=1:=by omega
  exact h.run (oN _) λ_ G F2 hr l h=>fin l hr h
 ·obtain rfl:j=2:=by omega
  exact h.run (ln _) λ_ G F2 hr l h=>fin l hr h
 ·obtain rfl:j=3:=by omega
  exact h.run (wY _) λ_ G F2 hr l h=>fin l hr h
 ·obtain rfl:j=4:=by omega
  exact h.run (uK _) λ_ G F2 hr l h=>fin l hr h
 ·obtain rfl:j=5:=by omega
  exact h.run (uM _) λ_ G F2 hr l h=>fin l hr h
end Go.Proofs.YtcemhghkipgdiaaGreatDoor
