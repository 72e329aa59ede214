/-
  Known grammars with levels and filters; all of them. Printed by a program (mkIf.py).
-/
import Derived.Test.YtcemhghkipgdiaaGreatDoorIe
namespace Go.Proofs.YtcemhghkipgdiaaGreatDoor
open Go Go.Proofs.Tryz Tr
set_option maxRecDepth 10000
theorem eg {F:PH} {b:Nat} {e:TypeId} {x:Int} (q:F b=some (.cells #[vi x] e)):RL F (Sl.mk (some (Addr.mk b 0 none)) 1 1) [x]:=RL.ints.2 (RdS.new q rfl rfl (QW _))
theorem nB {F:PH} {x:Fi} {t n:Sl} (ht:RL F t x.toks) (hn:RL F n x.cond.1):Mem.rep F x (x.arr t n):=⟨t,n,rfl,ht,hn⟩
theorem ff {F:PH} {x:Lv} {p n:Sl} (hp:RL F p x.ps) (hn:RL F n x.cond.1):Mem.rep F x (x.arr p n):=⟨p,n,rfl,hp,hn⟩
theorem sT (F:PH):aj prog 133 #[] F λr F'=>(∃w,r=.agg w/\GV F' w j0)/\F.le F':=by refine NY ?_;unfold Im;refine gj F [⟨#[83]⟩,⟨#[87]⟩,⟨#[86]⟩] rfl rfl λb0 b1 F1 h=> ?_;refine h.rule2 (dL 1) (dL 2) (by decide) λF2 h=> ?_;refine h.rule1 (cG 0) (by decide) λF2 h=> ?_;refine h.rule2 (cG 0) (cG 0) (by decide) λF2 h=> ?_;refine h.rule0 (by decide) λF2 h=> ?_;refine h.rule2 (cG 0) (dL 2) (by decide) λF2 h=> ?_;refine h.rule2 (cG 1) (dL 2) (by decide) λF2 h=> ?_;refine h.rank 1 rfl λF2 h=> ?_;refine h.cnd 5 rfl 1 (by decide) λF2 h=> ?_;refine h.new λb64 K3 F3 l3 q64 h=> ?_;refine h.run (λG _=>aL 0 (by decide) G) λ_ K4 F4 hr l4 h=> ?_;obtain ⟨_,rfl,hw⟩:=hr;obtain ⟨m,rfl,hm⟩:=hw.out;refine ⟨_,rfl,rfl,?_⟩;refine h.new λb67 K5 F5 l5 q67 h=> ?_;refine h.run (λG _=>aL 1 (by decide) G) λ_ K6 F6 hr l6 h=> ?_;obtain ⟨_,rfl,hv⟩:=hr;refine ⟨_,rfl,?_⟩;refine h.run (λG hl=>bu (by decide) (hv.le hl)) λ_ K7 F7 hr l7 h=> ?_;obtain ⟨_,rfl,hw⟩:=hr;obtain ⟨m',rfl,hm'⟩:=hw.out;refine ⟨_,rfl,rfl,rfl,rfl,?_⟩;refine h.new λb71 K8 F8 l8 q71 h=> ?_;have l58:=aa l6 (aa l7 l8);have l48:=aa l5 l58;refine h.fils (x:=[⟨3,0,0,0,1,0,[0],dia (tv 0)⟩,⟨4,0,0,0,2,0,[1],cQ 1⟩]) ⟨[_,_],.cons (nB (eg (l48 _ _ (l4 _ _ q64))) (hm.le l48)) (.cons (nB (eg (l58 _ _ q67)) (hm'.le l8)) .nil),RdS.new q71 (by kernel_rfl) rfl (QW _)⟩ λF9 h=> ?_;exact h.fin (R:=λr F'=>(∃w,r=.agg w/\GV F' w j0)/\F.le F') λw F' hv hl=>⟨⟨w,rfl,hv⟩,aa l3 (aa l4 (aa l48 hl))⟩
noncomputable def sU:Gr:={(cu [⟨#[83]⟩,⟨#[67]⟩]) with prods:=cI.prods}
theorem yp {K F F0:PH} {b0 b1 b61 b64:Nat} {g:Gr} {c n t s sp l m v:Sl} {vs:List Γ} (hF:F0.le K) (hg:{g with fils:=[⟨2,0,2,1,0,0,[],dia (tv 0)⟩,⟨5,0,0,0,0,0,[5,6],dia (tv 1)⟩]}=cI)
  (st:St K F [pt b64 (.cells (wr (wr (#[.int .i64 0,.int .i64 0,.int .i64 0,.int .i64 0,.int .i64 0,.int .i64 0,.slice none 0 0,.slice none 0 0,.int .i64 0,.int .i64 0,.int .i64 0,.int .i64 0,.int .i64 0,.int .i64 0,.int .i64 0,.slice none 0 0,.slice none 0 0,.int .i64 0]:Γ) 0 (wr (Array.setIfInBounds (Array.setIfInBounds (Array.setIfInBounds (#[.int .i64 0,.int .i64 0,.int .i64 0,.int .i64 0,.int .i64 0,.int .i64 0,.slice none 0 0,.slice none 0 0,.int .i64 0]:Γ) 0 (vi 2)) 2 (vi 2)) 3 (vi 1)) 7 (#[m.v,vi (dia (tv 0)).2]:Γ).toList).toList) 9 (wr (Array.setIfInBounds (Array.setIfInBounds (#[.int .i64 0,.int .i64 0,.int .i64 0,.int .i64 0,.int .i64 0,.int .i64 0,.slice none 0 0,.slice none 0 0,.int .i64 0]:Γ) 0 (vi 5)) 6 (Sl.v (Sl.mk (some (Addr.mk b61 0 none)) 2 2))) 7 (#[v.v,vi aK.2]:Γ).toList).toList) 156),pt b1 (.cells (g.arr c n t s sp l (Sl.mk (some (Addr.mk b64 0 none)) 2 2)) 37),own sp 55 13 (cat vs),pt b0 (.cells zG 37)])
  (hr:cR K g.prods vs) (hc:RL K c g.conds) (hn:RL K n g.fam.1) (ht:RL K t g.toks) (hs:RL K s g.nons) (hl:RL K l g.lvs) (hm:RL K m (dia (tv 0)).1) (q61:RL K (Sl.mk (some (Addr.mk b61 0 none)) 2 2) [(5:Int),6]):
  ou b0 b1 (λr F'=>(∃w,r=.agg w/\GV F' w cI)/\F0.le F') F:=by
 unfold ou;refine ⟨_,st.ld1 rfl,?_⟩;refine st.run (aL 1 (by decide) _) λ_ K1 F1 hr1 l1 st=> ?_;obtain ⟨_,rfl,hw⟩:=hr1;obtain ⟨m1,rfl,hm1⟩:=hw.out;refine ⟨_,rfl,st.ld1 rfl,_,rfl,by decide,(by show (1:Int)<2;decide),?_⟩;simp only [aC];refine st.putR0 (o:=16) (w':= #[vi 2,vi 0,vi 2,vi 1,vi 0,vi 0,Sl.v Sl.nil,m.v,vi (dia (tv 0)).2,vi 5,vi 0,vi 0,vi 0,vi 0,vi 0,Sl.v (Sl.mk (some (Addr.mk b61 0 none)) 2 2),m1.v,vi (dia (tv 1)).2]) rfl (by simp [ak,Sl.v]) (by rw [dx,dx];show 16+2<=18;decide) (by kernel_rfl) λF2 st=> ?_;obtain ⟨K2,l2,⟨H,hA,hH⟩,st⟩:=st.pin;have q:=hH _ _ hA;have l12:=aa l1 l2;have hf:RL K2 (Sl.mk (some (Addr.mk b64 0 none)) 2 2) [(⟨2,0,2,1,0,0,[],dia (tv 0)⟩:Fi),⟨5,0,0,0,0,0,[5,6],dia (tv 1)⟩]:=
  ⟨[_,_],.cons (nB (t:=Sl.nil) (.nil _) (hm.le l12)) (.cons (nB (q61.le l12) (hm1.le l2)) .nil),RdS.new q (by kernel_rfl) rfl (QW _)⟩
 have h:KS K2 F2 b0 b1 cI:=by rw [<- hg];exact ⟨K2,c,n,t,s,sp,l,_,vs,aq _,st,hr.le l12,hc.le l12,hn.le l12,ht.le l12,hs.le l12,hl.le l12,hf⟩
 exact h.fin (R:=λr F'=>(∃w,r=.agg w/\GV F' w cI)/\F0.le F') λw F' hv hl=>⟨⟨w,rfl,hv⟩,aa hF (aa l12 hl)⟩
theorem nf (F:PH):aj prog 130 #[] F λr F'=>(∃w,r=.agg w/\GV F' w cI)/\F.le F':=by
 refine NU ?_;unfold Ij;refine gj F [⟨#[83]⟩,⟨#[67]⟩] rfl rfl λb0 b1 F1 h=> ?_;refine h.allv λb2 K1 F2 n l1 q hn h=> ?_;refine h.rule5 (cG 5) (dL 1) (dL 0) (cG 6) (dL 0) (by decide) λF2 h=> ?_;refine h.rule3 (cG 5) (dL 1) (dL 0) (by decide) λF2 h=> ?_;refine h.rule2 (dL 1) (cG 7) (by decide) λF2 h=> ?_;refine h.rule3 (cG 3) (dL 0) (cG 4) (by decide) λF2 h=> ?_;refine h.rule1 (cG 0) (by decide) λF2 h=> ?_;refine h.brk 3 rfl λF2 h=> ?_;refine ⟨_,rfl,ac (h.le _ _ q),?_⟩;obtain ⟨G,c,n',t,s,sp,l,f,vs,h⟩:=h;have hn:=hn.le h.k;have l1:=aa l1 h.k;refine ⟨?_,?_⟩
 ·refine h.st.run (aL 0 (by decide) _) λ_ K4 F4 hr l4 st=> ?_;obtain ⟨_,rfl,hw⟩:=hr;obtain ⟨m,rfl,hm⟩:=hw.out;refine ⟨_,rfl,ac (st.le _ _ (l4 _ _ (h.k _ _ q))),rfl,?_⟩;refine st.newG λb61 K5 F5 l5 q61 _ st=> ?_;refine ⟨rfl,rfl,rfl,?_⟩;refine st.new λb64 F6 st=> ?_;refine st.set1 (w':=(sU.arr c n' t s sp l (Sl.mk (some (Addr.mk b64 0 none)) 2 2))) (by show 8<9;decide) rfl λF7 st=> ?_;have l45:=aa l4 l5;exact yp (g:=sU) (aa l1 l45) rfl st (h.r.le l45) (h.c.le l45) (h.n.le l45) (h.t.le l45) (h.s.le l45) (h.l.le l45) (hm.le l5) (RL.ints.2 (RdS.new q61 rfl rfl (QW _)))
 ·refine h.st.newG λb61 K5 F5 l5 q61 _ st=> ?_;refine ⟨rfl,?_⟩;refine st.run (aL 0 (by decide) _) λ_ K4 F4 hr l4 st=> ?_;obtain ⟨_,rfl,hw⟩:=hr;obtain ⟨m,rfl,hm⟩:=hw.out;refine ⟨_,rfl,ac (st.le _ _ (l4 _ _ (l5 _ _ (h.k _ _ q)))),rfl,rfl,rfl,?_⟩;refine st.new λb64 F6 st=> ?_;refine st.set1 (w':=(sU.arr c n' t s sp l (Sl.mk (some (Addr.mk b64 0 none)) 2 2))) (by show 8<9;decide) rfl λF7 st=> ?_;have l45:=aa l5 l4;exact yp (g:=sU) (aa l1 l45) rfl st (h.r.le l45) (h.c.le l45) (h.n.le l45) (h.t.le l45) (h.s.le l45) (h.l.le l45) hm ((RL.ints.2 (RdS.new q61 rfl rfl (QW _))).le l4)
noncomputable def Gu:Gr:={de with lvs:=[]}
structure EK (K0 K F:PH) (b0 b1 b2:Nat) (n:Sl):Prop where
 h:KS K F b0 b1 Gu
 l:K0.le K
 q:K b2=some (.cells #[Sl.v n,vi aK.2] 31)
 n:RL K n aK.1
theorem EK.up {K0 K F K' F':PH} {b0 b1 b2:Nat} {n:Sl} (H:EK K0 K F b0 b1 b2 n) (l:K.le K') (h:KS K' F' b0 b1 Gu):EK K0 K' F' b0 b1 b2 n:=⟨h,aa H.l l,l _ _ H.q,H.n.le l⟩
theorem EK.row {K0 K F:PH} {b0 b1 b2:Nat} {n:Sl} (H:EK K0 K F b0 b1 b2 n):F.row (Addr.mk b2 0 none) #[Sl.v n,vi aK.2]:=ac (H.h.le _ _ H.q)
section
variable {K0 K F:PH} {b0 b1 b2:Nat} {n:Sl}
abbrev ci (K0:PH):VR:=λr F'=>(∃w,r=.agg w/\GV F' w de)/\K0.le F'
theorem IH (H:EK K0 K F b0 b1 b2 n) {b73:Nat} (hr:RL K (Sl.mk (some (Addr.mk b73 0 none)) 3 3) de.lvs):kP b1 b73 b0 (ci K0) F:=by unfold kP;refine H.h.lvs hr λF9 h=> ?_;unfold zy;exact h.fin (R:=ci K0) λw F' hv hl=>⟨⟨w,rfl,hv⟩,aa H.l hl⟩
theorem gh (H:EK K0 K F b0 b1 b2 n) {m71:Sl} (h71:RL K m71 (cQ 0).1) {b63:Nat} (q63:K b63=some (.cells #[vi 4] 3)) {b66:Nat} (q66:K b66=some (.cells #[vi 1] 3)) {b69:Nat} (q69:K b69=some (.cells #[vi 0] 3)):fU #[Sl.v m71,vi (cQ 0).2] b63 #[Sl.v n,vi aK.2] b66 #[Sl.v n,vi aK.2] b69 b1 b0 (ci K0) F:=by unfold fU;refine ⟨rfl,?_⟩;refine ⟨rfl,?_⟩;refine ⟨rfl,?_⟩;refine ⟨rfl,?_⟩;refine H.h.new λb73 K F l q73 h=> ?_;replace H:=H.up l h;replace h71:=h71.le l;replace q63:=l _ _ q63;replace q66:=l _ _ q66;replace q69:=l _ _ q69;exact IH H ⟨[_,_,_],.cons (ff (eg q63) H.n) (.cons (ff (eg q66) H.n) (.cons (ff (eg q69) h71) .nil)),RdS.new q73 (by kernel_rfl) rfl (QW _)⟩
theorem gi (H:EK K0 K F b0 b1 b2 n) {m70:Sl} (h70:RL K m70 (dia (tv 0)).1) {b63:Nat} (q63:K b63=some (.cells #[vi 4] 3)) {b66:Nat} (q66:K b66=some (.cells #[vi 1] 3)) {b69:Nat} (q69:K b69=some (.cells #[vi 0] 3)):fV #[Sl.v m70,vi (dia (tv 0)).2] b2 #[Sl.v n,vi aK.2] #[Sl.v n,vi aK.2] b63 b66 b69 b1 b0 (ci K0) F:=by unfold fV;refine H.h.run (λG hl=>bu (x:=0) (by decide) ((DV.mk h70).le hl)) λ_ K F hr l h=> ?_;replace H:=H.up l h;replace h70:=h70.le l;replace q63:=l _ _ q63;replace q66:=l _ _ q66;replace q69:=l _ _ q69;obtain ⟨_,rfl,hw⟩:=hr;obtain ⟨m71,rfl,h71⟩:=hw.out;refine ⟨_,rfl,?_⟩;refine ⟨H.row,?_⟩;refine ⟨H.row,?_⟩;exact gh H h71 q63 q66 q69
theorem uP (H:EK K0 K F b0 b1 b2 n) {b63:Nat} (q63:K b63=some (.cells #[vi 4] 3)) {b66:Nat} (q66:K b66=some (.cells #[vi 1] 3)) {b69:Nat} (q69:K b69=some (.cells #[vi 0] 3)):oq b2 #[Sl.v n,vi aK.2] #[Sl.v n,vi aK.2] b63 b66 b69 b1 b0 (ci K0) F:=by unfold oq;refine H.h.run (λG _=>aL 0 (by decide) G) λ_ K F hr l h=> ?_;replace H:=H.up l h;replace q63:=l _ _ q63;replace q66:=l _ _ q66;replace q69:=l _ _ q69;obtain ⟨_,rfl,hw⟩:=hr;obtain ⟨m70,rfl,h70⟩:=hw.out;refine ⟨_,rfl,?_⟩;refine ⟨H.row,?_⟩;refine ⟨H.row,?_⟩;exact gi H h70 q63 q66 q69
theorem oQ (H:EK K0 K F b0 b1 b2 n) {m71:Sl} (h71:RL K m71 (cQ 0).1) {b63:Nat} (q63:K b63=some (.cells #[vi 4] 3)) {b66:Nat} (q66:K b66=some (.cells #[vi 1] 3)):kQ #[Sl.v m71,vi (cQ 0).2] b63 #[Sl.v n,vi aK.2] b66 #[Sl.v n,vi aK.2] b1 b0 (ci K0) F:=by unfold kQ;refine H.h.new λb69 K F l q69 h=> ?_;replace H:=H.up l h;replace h71:=h71.le l;replace q63:=l _ _ q63;replace q66:=l _ _ q66;exact gh H h71 q63 q66 q69
theorem uQ (H:EK K0 K F b0 b1 b2 n) {m70:Sl} (h70:RL K m70 (dia (tv 0)).1) {b63:Nat} (q63:K b63=some (.cells #[vi 4] 3)) {b66:Nat} (q66:K b66=some (.cells #[vi 1] 3)):ot #[Sl.v m70,vi (dia (tv 0)).2] b2 #[Sl.v n,vi aK.2] #[Sl.v n,vi aK.2] b63 b66 b1 b0 (ci K0) F:=by
 unfold ot;refine ⟨?_,?_⟩
 ·refine H.h.new λb69 K F l q69 h=> ?_;replace H:=H.up l h;replace h70:=h70.le l;replace q63:=l _ _ q63;replace q66:=l _ _ q66;exact gi H h70 q63 q66 q69
 ·refine H.h.run (λG hl=>bu (x:=0) (by decide) ((DV.mk h70).le hl)) λ_ K F hr l h=> ?_;replace H:=H.up l h;replace h70:=h70.le l;replace q63:=l _ _ q63;replace q66:=l _ _ q66;obtain ⟨_,rfl,hw⟩:=hr;obtain ⟨m71,rfl,h71⟩:=hw.out;refine ⟨_,rfl,?_⟩;refine ⟨H.row,?_⟩;refine ⟨H.row,?_⟩;exact oQ H h71 q63 q66
theorem BE (H:EK K0 K F b0 b1 b2 n) {b63:Nat} (q63:K b63=some (.cells #[vi 4] 3)) {b66:Nat} (q66:K b66=some (.cells #[vi 1] 3)):t6 #[Sl.v n,vi aK.2] b2 #[Sl.v n,vi aK.2] b63 b66 b1 b0 (ci K0) F:=by
 unfold t6;refine ⟨rfl,?_⟩;refine ⟨?_,?_⟩
 ·refine H.h.new λb69 K F l q69 h=> ?_;replace H:=H.up l h;replace q63:=l _ _ q63;replace q66:=l _ _ q66;exact uP H q63 q66 q69
 ·refine H.h.run (λG _=>aL 0 (by decide) G) λ_ K F hr l h=> ?_;replace H:=H.up l h;replace q63:=l _ _ q63;replace q66:=l _ _ q66;obtain ⟨_,rfl,hw⟩:=hr;obtain ⟨m70,rfl,h70⟩:=hw.out;refine ⟨_,rfl,?_⟩;refine ⟨H.row,?_⟩;refine ⟨H.row,?_⟩;exact uQ H h70 q63 q66
theorem ro (H:EK K0 K F b0 b1 b2 n) {b63:Nat} (q63:K b63=some (.cells #[vi 4] 3)) {b66:Nat} (q66:K b66=some (.cells #[vi 1] 3)) {b69:Nat} (q69:K b69=some (.cells #[vi 0] 3)):kR #[Sl.v n,vi aK.2] b2 #[Sl.v n,vi aK.2] b63 b66 b69 b1 b0 (ci K0) F:=by unfold kR;refine ⟨rfl,?_⟩;refine H.h.run (λG _=>aL 0 (by decide) G) λ_ K F hr l h=> ?_;replace H:=H.up l h;replace q63:=l _ _ q63;replace q66:=l _ _ q66;replace q69:=l _ _ q69;obtain ⟨_,rfl,hw⟩:=hr;obtain ⟨m70,rfl,h70⟩:=hw.out;refine ⟨_,rfl,?_⟩;refine ⟨H.row,?_⟩;refine ⟨H.row,?_⟩;exact gi H h70 q63 q66 q69
theorem rq (H:EK K0 K F b0 b1 b2 n) {m70:Sl} (h70:RL K m70 (dia (tv 0)).1) {b63:Nat} (q63:K b63=some (.cells #[vi 4] 3)) {b66:Nat} (q66:K b66=some (.cells #[vi 1] 3)) {b69:Nat} (q69:K b69=some (.cells #[vi 0] 3)):kS #[Sl.v n,vi aK.2] #[Sl.v m70,vi (dia (tv 0)).2] b2 #[Sl.v n,vi aK.2] b63 b66 b69 b1 b0 (ci K0) F:=by unfold kS;refine ⟨rfl,?_⟩;refine H.h.run (λG hl=>bu (x:=0) (by decide) ((DV.mk h70).le hl)) λ_ K F hr l h=> ?_;replace H:=H.up l h;replace h70:=h70.le l;replace q63:=l _ _ q63;replace q66:=l _ _ q66;replace q69:=l _ _ q69;obtain ⟨_,rfl,hw⟩:=hr;obtain ⟨m71,rfl,h71⟩:=hw.out;refine ⟨_,rfl,?_⟩;refine ⟨H.row,?_⟩;refine ⟨H.row,?_⟩;exact gh H h71 q63 q66 q69
theorem rt (H:EK K0 K F b0 b1 b2 n) {b63:Nat} (q63:K b63=some (.cells #[vi 4] 3)) {b66:Nat} (q66:K b66=some (.cells #[vi 1] 3)) {b69:Nat} (q69:K b69=some (.cells #[vi 0] 3)) {m71:Sl} (h71:RL K m71 (cQ 0).1):kT #[Sl.v n,vi aK.2] b63 #[Sl.v n,vi aK.2] b66 b69 #[Sl.v m71,vi (cQ 0).2] b1 b0 (ci K0) F:=by unfold kT;refine ⟨rfl,?_⟩;refine ⟨rfl,?_⟩;refine ⟨rfl,?_⟩;refine ⟨rfl,?_⟩;refine H.h.new λb73 K F l q73 h=> ?_;replace H:=H.up l h;replace q63:=l _ _ q63;replace q66:=l _ _ q66;replace q69:=l _ _ q69;replace h71:=h71.le l;exact IH H ⟨[_,_,_],.cons (ff (eg q63) H.n) (.cons (ff (eg q66) H.n) (.cons (ff (eg q69) h71) .nil)),RdS.new q73 (by kernel_rfl) rfl (QW _)⟩
theorem iT (H:EK K0 K F b0 b1 b2 n) {m71:Sl} (h71:RL K m71 (cQ 0).1) {b63:Nat} (q63:K b63=some (.cells #[vi 4] 3)) {b69:Nat} (q69:K b69=some (.cells #[vi 0] 3)):gy #[Sl.v m71,vi (cQ 0).2] #[Sl.v n,vi aK.2] b63 #[Sl.v n,vi aK.2] b69 b1 b0 (ci K0) F:=by unfold gy;refine ⟨rfl,?_⟩;refine H.h.new λb66 K F l q66 h=> ?_;replace H:=H.up l h;replace h71:=h71.le l;replace q63:=l _ _ q63;replace q69:=l _ _ q69;exact rt H q63 q66 q69 h71
theorem iU (H:EK K0 K F b0 b1 b2 n) {m70:Sl} (h70:RL K m70 (dia (tv 0)).1) {b63:Nat} (q63:K b63=some (.cells #[vi 4] 3)) {b69:Nat} (q69:K b69=some (.cells #[vi 0] 3)):gz #[Sl.v n,vi aK.2] #[Sl.v m70,vi (dia (tv 0)).2] b2 #[Sl.v n,vi aK.2] b63 b69 b1 b0 (ci K0) F:=by
 unfold gz;refine ⟨?_,?_⟩
 ·refine H.h.new λb66 K F l q66 h=> ?_;replace H:=H.up l h;replace h70:=h70.le l;replace q63:=l _ _ q63;replace q69:=l _ _ q69;exact rq H h70 q63 q66 q69
 ·refine H.h.run (λG hl=>bu (x:=0) (by decide) ((DV.mk h70).le hl)) λ_ K F hr l h=> ?_;replace H:=H.up l h;replace h70:=h70.le l;replace q63:=l _ _ q63;replace q69:=l _ _ q69;obtain ⟨_,rfl,hw⟩:=hr;obtain ⟨m71,rfl,h71⟩:=hw.out;refine ⟨_,rfl,?_⟩;refine ⟨H.row,?_⟩;refine ⟨H.row,?_⟩;exact iT H h71 q63 q69
theorem z9 (H:EK K0 K F b0 b1 b2 n) {b63:Nat} (q63:K b63=some (.cells #[vi 4] 3)) {b69:Nat} (q69:K b69=some (.cells #[vi 0] 3)):pX #[Sl.v n,vi aK.2] b2 #[Sl.v n,vi aK.2] b63 b69 b1 b0 (ci K0) F:=by
 unfold pX;refine ⟨?_,?_⟩
 ·refine H.h.new λb66 K F l q66 h=> ?_;replace H:=H.up l h;replace q63:=l _ _ q63;replace q69:=l _ _ q69;exact ro H q63 q66 q69
 ·refine H.h.run (λG _=>aL 0 (by decide) G) λ_ K F hr l h=> ?_;replace H:=H.up l h;replace q63:=l _ _ q63;replace q69:=l _ _ q69;obtain ⟨_,rfl,hw⟩:=hr;obtain ⟨m70,rfl,h70⟩:=hw.out;refine ⟨_,rfl,?_⟩;refine ⟨H.row,?_⟩;refine ⟨H.row,?_⟩;exact iU H h70 q63 q69
theorem ru (H:EK K0 K F b0 b1 b2 n) {m70:Sl} (h70:RL K m70 (dia (tv 0)).1) {b63:Nat} (q63:K b63=some (.cells #[vi 4] 3)) {b66:Nat} (q66:K b66=some (.cells #[vi 1] 3)):kU #[Sl.v n,vi aK.2] #[Sl.v m70,vi (dia (tv 0)).2] b2 #[Sl.v n,vi aK.2] b63 b66 b1 b0 (ci K0) F:=by
 unfold kU;refine ⟨rfl,?_⟩;refine ⟨?_,?_⟩
 ·refine H.h.new λb69 K F l q69 h=> ?_;replace H:=H.up l h;replace h70:=h70.le l;replace q63:=l _ _ q63;replace q66:=l _ _ q66;exact gi H h70 q63 q66 q69
 ·refine H.h.run (λG hl=>bu (x:=0) (by decide) ((DV.mk h70).le hl)) λ_ K F hr l h=> ?_;replace H:=H.up l h;replace h70:=h70.le l;replace q63:=l _ _ q63;replace q66:=l _ _ q66;obtain ⟨_,rfl,hw⟩:=hr;obtain ⟨m71,rfl,h71⟩:=hw.out;refine ⟨_,rfl,?_⟩;refine ⟨H.row,?_⟩;refine ⟨H.row,?_⟩;exact oQ H h71 q63 q66
theorem ry (H:EK K0 K F b0 b1 b2 n) {m71:Sl} (h71:RL K m71 (cQ 0).1) {b63:Nat} (q63:K b63=some (.cells #[vi 4] 3)) {b66:Nat} (q66:K b66=some (.cells #[vi 1] 3)):kV #[Sl.v n,vi aK.2] #[Sl.v m71,vi (cQ 0).2] b63 #[Sl.v n,vi aK.2] b66 b1 b0 (ci K0) F:=by unfold kV;refine ⟨rfl,?_⟩;refine H.h.new λb69 K F l q69 h=> ?_;replace H:=H.up l h;replace h71:=h71.le l;replace q63:=l _ _ q63;replace q66:=l _ _ q66;exact gh H h71 q63 q66 q69
theorem rz (H:EK K0 K F b0 b1 b2 n) {m71:Sl} (h71:RL K m71 (cQ 0).1) {b63:Nat} (q63:K b63=some (.cells #[vi 4] 3)):kW #[Sl.v n,vi aK.2] #[Sl.v m71,vi (cQ 0).2] b63 #[Sl.v n,vi aK.2] b1 b0 (ci K0) F:=by
 unfold kW;refine ⟨?_,?_⟩
 ·refine H.h.new λb66 K F l q66 h=> ?_;replace H:=H.up l h;replace h71:=h71.le l;replace q63:=l _ _ q63;exact ry H h71 q63 q66
 ·refine H.h.new λb69 K F l q69 h=> ?_;replace H:=H.up l h;replace h71:=h71.le l;replace q63:=l _ _ q63;exact iT H h71 q63 q69
theorem Aa (H:EK K0 K F b0 b1 b2 n) {m70:Sl} (h70:RL K m70 (dia (tv 0)).1) {b63:Nat} (q63:K b63=some (.cells #[vi 4] 3)):pY #[Sl.v n,vi aK.2] #[Sl.v m70,vi (dia (tv 0)).2] b2 #[Sl.v n,vi aK.2] b63 b1 b0 (ci K0) F:=by
 unfold pY;refine ⟨?_,?_,?_⟩
 ·refine H.h.new λb66 K F l q66 h=> ?_;replace H:=H.up l h;replace h70:=h70.le l;replace q63:=l _ _ q63;exact ru H h70 q63 q66
 ·refine H.h.new λb69 K F l q69 h=> ?_;replace H:=H.up l h;replace h70:=h70.le l;replace q63:=l _ _ q63;exact iU H h70 q63 q69
 ·refine H.h.run (λG hl=>bu (x:=0) (by decide) ((DV.mk h70).le hl)) λ_ K F hr l h=> ?_;replace H:=H.up l h;replace h70:=h70.le l;replace q63:=l _ _ q63;obtain ⟨_,rfl,hw⟩:=hr;obtain ⟨m71,rfl,h71⟩:=hw.out;refine ⟨_,rfl,?_⟩;refine ⟨H.row,?_⟩;refine ⟨H.row,?_⟩;exact rz H h71 q63
theorem BF (H:EK K0 K F b0 b1 b2 n) {b63:Nat} (q63:K b63=some (.cells #[vi 4] 3)):t7 #[Sl.v n,vi aK.2] #[Sl.v n,vi aK.2] b2 b63 b1 b0 (ci K0) F:=by
 unfold t7;refine ⟨rfl,?_⟩;refine ⟨?_,?_,?_⟩
 ·refine H.h.new λb66 K F l q66 h=> ?_;replace H:=H.up l h;replace q63:=l _ _ q63;exact BE H q63 q66
 ·refine H.h.new λb69 K F l q69 h=> ?_;replace H:=H.up l h;replace q63:=l _ _ q63;exact z9 H q63 q69
 ·refine H.h.run (λG _=>aL 0 (by decide) G) λ_ K F hr l h=> ?_;replace H:=H.up l h;replace q63:=l _ _ q63;obtain ⟨_,rfl,hw⟩:=hr;obtain ⟨m70,rfl,h70⟩:=hw.out;refine ⟨_,rfl,?_⟩;refine ⟨H.row,?_⟩;refine ⟨H.row,?_⟩;exact Aa H h70 q63
theorem Ab (H:EK K0 K F b0 b1 b2 n) {b63:Nat} (q63:K b63=some (.cells #[vi 4] 3)) {b66:Nat} (q66:K b66=some (.cells #[vi 1] 3)):pZ #[Sl.v n,vi aK.2] b2 #[Sl.v n,vi aK.2] b63 b66 b1 b0 (ci K0) F:=by
 unfold pZ;refine ⟨rfl,?_⟩;refine ⟨?_,?_⟩
 ·refine H.h.new λb69 K F l q69 h=> ?_;replace H:=H.up l h;replace q63:=l _ _ q63;replace q66:=l _ _ q66;exact uP H q63 q66 q69
 ·refine H.h.run (λG _=>aL 0 (by decide) G) λ_ K F hr l h=> ?_;replace H:=H.up l h;replace q63:=l _ _ q63;replace q66:=l _ _ q66;obtain ⟨_,rfl,hw⟩:=hr;obtain ⟨m70,rfl,h70⟩:=hw.out;refine ⟨_,rfl,?_⟩;refine ⟨H.row,?_⟩;refine ⟨H.row,?_⟩;exact uQ H h70 q63 q66
theorem rA (H:EK K0 K F b0 b1 b2 n) {b63:Nat} (q63:K b63=some (.cells #[vi 4] 3)) {b66:Nat} (q66:K b66=some (.cells #[vi 1] 3)) {b69:Nat} (q69:K b69=some (.cells #[vi 0] 3)):kX #[Sl.v n,vi aK.2] b2 #[Sl.v n,vi aK.2] b63 b66 b69 b1 b0 (ci K0) F:=by unfold kX;refine ⟨rfl,?_⟩;refine H.h.run (λG _=>aL 0 (by decide) G) λ_ K F hr l h=> ?_;replace H:=H.up l h;replace q63:=l _ _ q63;replace q66:=l _ _ q66;replace q69:=l _ _ q69;obtain ⟨_,rfl,hw⟩:=hr;obtain ⟨m70,rfl,h70⟩:=hw.out;refine ⟨_,rfl,?_⟩;refine ⟨H.row,?_⟩;refine ⟨H.row,?_⟩;exact gi H h70 q63 q66 q69
theorem rB (H:EK K0 K F b0 b1 b2 n) {m70:Sl} (h70:RL K m70 (dia (tv 0)).1) {b63:Nat} (q63:K b63=some (.cells #[vi 4] 3)) {b66:Nat} (q66:K b66=some (.cells #[vi 1] 3)) {b69:Nat} (q69:K b69=some (.cells #[vi 0] 3)):kY #[Sl.v n,vi aK.2] #[Sl.v m70,vi (dia (tv 0)).2] b2 #[Sl.v n,vi aK.2] b63 b66 b69 b1 b0 (ci K0) F:=by unfold kY;refine ⟨rfl,?_⟩;refine H.h.run (λG hl=>bu (x:=0) (by decide) ((DV.mk h70).le hl)) λ_ K F hr l h=> ?_;replace H:=H.up l h;replace h70:=h70.le l;replace q63:=l _ _ q63;replace q66:=l _ _ q66;replace q69:=l _ _ q69;obtain ⟨_,rfl,hw⟩:=hr;obtain ⟨m71,rfl,h71⟩:=hw.out;refine ⟨_,rfl,?_⟩;refine ⟨H.row,?_⟩;refine ⟨H.row,?_⟩;exact gh H h71 q63 q66 q69
theorem rC (H:EK K0 K F b0 b1 b2 n) {b63:Nat} (q63:K b63=some (.cells #[vi 4] 3)) {b66:Nat} (q66:K b66=some (.cells #[vi 1] 3)) {b69:Nat} (q69:K b69=some (.cells #[vi 0] 3)) {m71:Sl} (h71:RL K m71 (cQ 0).1):kZ #[Sl.v n,vi aK.2] b63 b66 #[Sl.v n,vi aK.2] b69 #[Sl.v m71,vi (cQ 0).2] b1 b0 (ci K0) F:=by unfold kZ;refine ⟨rfl,?_⟩;refine ⟨rfl,?_⟩;refine ⟨rfl,?_⟩;refine ⟨rfl,?_⟩;refine H.h.new λb73 K F l q73 h=> ?_;replace H:=H.up l h;replace q63:=l _ _ q63;replace q66:=l _ _ q66;replace q69:=l _ _ q69;replace h71:=h71.le l;exact IH H ⟨[_,_,_],.cons (ff (eg q63) H.n) (.cons (ff (eg q66) H.n) (.cons (ff (eg q69) h71) .nil)),RdS.new q73 (by kernel_rfl) rfl (QW _)⟩
theorem iV (H:EK K0 K F b0 b1 b2 n) {m71:Sl} (h71:RL K m71 (cQ 0).1) {b66:Nat} (q66:K b66=some (.cells #[vi 1] 3)) {b69:Nat} (q69:K b69=some (.cells #[vi 0] 3)):gA #[Sl.v m71,vi (cQ 0).2] #[Sl.v n,vi aK.2] b66 #[Sl.v n,vi aK.2] b69 b1 b0 (ci K0) F:=by unfold gA;refine ⟨rfl,?_⟩;refine H.h.new λb63 K F l q63 h=> ?_;replace H:=H.up l h;replace h71:=h71.le l;replace q66:=l _ _ q66;replace q69:=l _ _ q69;exact rC H q63 q66 q69 h71
theorem iW (H:EK K0 K F b0 b1 b2 n) {m70:Sl} (h70:RL K m70 (dia (tv 0)).1) {b66:Nat} (q66:K b66=some (.cells #[vi 1] 3)) {b69:Nat} (q69:K b69=some (.cells #[vi 0] 3)):gB #[Sl.v n,vi aK.2] #[Sl.v m70,vi (dia (tv 0)).2] b2 #[Sl.v n,vi aK.2] b66 b69 b1 b0 (ci K0) F:=by
 unfold gB;refine ⟨?_,?_⟩
 ·refine H.h.new λb63 K F l q63 h=> ?_;replace H:=H.up l h;replace h70:=h70.le l;replace q66:=l _ _ q66;replace q69:=l _ _ q69;exact rB H h70 q63 q66 q69
 ·refine H.h.run (λG hl=>bu (x:=0) (by decide) ((DV.mk h70).le hl)) λ_ K F hr l h=> ?_;replace H:=H.up l h;replace h70:=h70.le l;replace q66:=l _ _ q66;replace q69:=l _ _ q69;obtain ⟨_,rfl,hw⟩:=hr;obtain ⟨m71,rfl,h71⟩:=hw.out;refine ⟨_,rfl,?_⟩;refine ⟨H.row,?_⟩;refine ⟨H.row,?_⟩;exact iV H h71 q66 q69
theorem Ac (H:EK K0 K F b0 b1 b2 n) {b66:Nat} (q66:K b66=some (.cells #[vi 1] 3)) {b69:Nat} (q69:K b69=some (.cells #[vi 0] 3)):p4 #[Sl.v n,vi aK.2] b2 #[Sl.v n,vi aK.2] b66 b69 b1 b0 (ci K0) F:=by
 unfold p4;refine ⟨?_,?_⟩
 ·refine H.h.new λb63 K F l q63 h=> ?_;replace H:=H.up l h;replace q66:=l _ _ q66;replace q69:=l _ _ q69;exact rA H q63 q66 q69
 ·refine H.h.run (λG _=>aL 0 (by decide) G) λ_ K F hr l h=> ?_;replace H:=H.up l h;replace q66:=l _ _ q66;replace q69:=l _ _ q69;obtain ⟨_,rfl,hw⟩:=hr;obtain ⟨m70,rfl,h70⟩:=hw.out;refine ⟨_,rfl,?_⟩;refine ⟨H.row,?_⟩;refine ⟨H.row,?_⟩;exact iW H h70 q66 q69
theorem rD (H:EK K0 K F b0 b1 b2 n) {m70:Sl} (h70:RL K m70 (dia (tv 0)).1) {b63:Nat} (q63:K b63=some (.cells #[vi 4] 3)) {b66:Nat} (q66:K b66=some (.cells #[vi 1] 3)):lf #[Sl.v n,vi aK.2] #[Sl.v m70,vi (dia (tv 0)).2] b2 #[Sl.v n,vi aK.2] b63 b66 b1 b0 (ci K0) F:=by
 unfold lf;refine ⟨rfl,?_⟩;refine ⟨?_,?_⟩
 ·refine H.h.new λb69 K F l q69 h=> ?_;replace H:=H.up l h;replace h70:=h70.le l;replace q63:=l _ _ q63;replace q66:=l _ _ q66;exact gi H h70 q63 q66 q69
 ·refine H.h.run (λG hl=>bu (x:=0) (by decide) ((DV.mk h70).le hl)) λ_ K F hr l h=> ?_;replace H:=H.up l h;replace h70:=h70.le l;replace q63:=l _ _ q63;replace q66:=l _ _ q66;obtain ⟨_,rfl,hw⟩:=hr;obtain ⟨m71,rfl,h71⟩:=hw.out;refine ⟨_,rfl,?_⟩;refine ⟨H.row,?_⟩;refine ⟨H.row,?_⟩;exact oQ H h71 q63 q66
theorem rE (H:EK K0 K F b0 b1 b2 n) {m71:Sl} (h71:RL K m71 (cQ 0).1) {b63:Nat} (q63:K b63=some (.cells #[vi 4] 3)) {b66:Nat} (q66:K b66=some (.cells #[vi 1] 3)):lh #[Sl.v n,vi aK.2] #[Sl.v m71,vi (cQ 0).2] b63 b66 #[Sl.v n,vi aK.2] b1 b0 (ci K0) F:=by unfold lh;refine ⟨rfl,?_⟩;refine H.h.new λb69 K F l q69 h=> ?_;replace H:=H.up l h;replace h71:=h71.le l;replace q63:=l _ _ q63;replace q66:=l _ _ q66;exact gh H h71 q63 q66 q69
theorem rF (H:EK K0 K F b0 b1 b2 n) {m71:Sl} (h71:RL K m71 (cQ 0).1) {b66:Nat} (q66:K b66=some (.cells #[vi 1] 3)):li #[Sl.v n,vi aK.2] #[Sl.v m71,vi (cQ 0).2] b66 #[Sl.v n,vi aK.2] b1 b0 (ci K0) F:=by
 unfold li;refine ⟨?_,?_⟩
 ·refine H.h.new λb63 K F l q63 h=> ?_;replace H:=H.up l h;replace h71:=h71.le l;replace q66:=l _ _ q66;exact rE H h71 q63 q66
 ·refine H.h.new λb69 K F l q69 h=> ?_;replace H:=H.up l h;replace h71:=h71.le l;replace q66:=l _ _ q66;exact iV H h71 q66 q69
theorem Ad (H:EK K0 K F b0 b1 b2 n) {m70:Sl} (h70:RL K m70 (dia (tv 0)).1) {b66:Nat} (q66:K b66=some (.cells #[vi 1] 3)):p5 #[Sl.v n,vi aK.2] #[Sl.v m70,vi (dia (tv 0)).2] b2 #[Sl.v n,vi aK.2] b66 b1 b0 (ci K0) F:=by
 unfold p5;refine ⟨?_,?_,?_⟩
 ·refine H.h.new λb63 K F l q63 h=> ?_;replace H:=H.up l h;replace h70:=h70.le l;replace q66:=l _ _ q66;exact rD H h70 q63 q66
 ·refine H.h.new λb69 K F l q69 h=> ?_;replace H:=H.up l h;replace h70:=h70.le l;replace q66:=l _ _ q66;exact iW H h70 q66 q69
 ·refine H.h.run (λG hl=>bu (x:=0) (by decide) ((DV.mk h70).le hl)) λ_ K F hr l h=> ?_;replace H:=H.up l h;replace h70:=h70.le l;replace q66:=l _ _ q66;obtain ⟨_,rfl,hw⟩:=hr;obtain ⟨m71,rfl,h71⟩:=hw.out;refine ⟨_,rfl,?_⟩;refine ⟨H.row,?_⟩;refine ⟨H.row,?_⟩;exact rF H h71 q66
theorem Ae (H:EK K0 K F b0 b1 b2 n) {b66:Nat} (q66:K b66=some (.cells #[vi 1] 3)):p6 #[Sl.v n,vi aK.2] #[Sl.v n,vi aK.2] b2 b66 b1 b0 (ci K0) F:=by
 unfold p6;refine ⟨rfl,?_⟩;refine ⟨?_,?_,?_⟩
 ·refine H.h.new λb63 K F l q63 h=> ?_;replace H:=H.up l h;replace q66:=l _ _ q66;exact Ab H q63 q66
 ·refine H.h.new λb69 K F l q69 h=> ?_;replace H:=H.up l h;replace q66:=l _ _ q66;exact Ac H q66 q69
 ·refine H.h.run (λG _=>aL 0 (by decide) G) λ_ K F hr l h=> ?_;replace H:=H.up l h;replace q66:=l _ _ q66;obtain ⟨_,rfl,hw⟩:=hr;obtain ⟨m70,rfl,h70⟩:=hw.out;refine ⟨_,rfl,?_⟩;refine ⟨H.row,?_⟩;refine ⟨H.row,?_⟩;exact Ad H h70 q66
theorem Af (H:EK K0 K F b0 b1 b2 n) {b63:Nat} (q63:K b63=some (.cells #[vi 4] 3)) {b69:Nat} (q69:K b69=some (.cells #[vi 0] 3)):p7 #[Sl.v n,vi aK.2] #[Sl.v n,vi aK.2] b2 b63 b69 b1 b0 (ci K0) F:=by
 unfold p7;refine ⟨rfl,?_⟩;refine ⟨?_,?_⟩
 ·refine H.h.new λb66 K F l q66 h=> ?_;replace H:=H.up l h;replace q63:=l _ _ q63;replace q69:=l _ _ q69;exact ro H q63 q66 q69
 ·refine H.h.run (λG _=>aL 0 (by decide) G) λ_ K F hr l h=> ?_;replace H:=H.up l h;replace q63:=l _ _ q63;replace q69:=l _ _ q69;obtain ⟨_,rfl,hw⟩:=hr;obtain ⟨m70,rfl,h70⟩:=hw.out;refine ⟨_,rfl,?_⟩;refine ⟨H.row,?_⟩;refine ⟨H.row,?_⟩;exact iU H h70 q63 q69
theorem Ah (H:EK K0 K F b0 b1 b2 n) {b66:Nat} (q66:K b66=some (.cells #[vi 1] 3)) {b69:Nat} (q69:K b69=some (.cells #[vi 0] 3)):p9 #[Sl.v n,vi aK.2] #[Sl.v n,vi aK.2] b2 b66 b69 b1 b0 (ci K0) F:=by
 unfold p9;refine ⟨rfl,?_⟩;refine ⟨?_,?_⟩
 ·refine H.h.new λb63 K F l q63 h=> ?_;replace H:=H.up l h;replace q66:=l _ _ q66;replace q69:=l _ _ q69;exact rA H q63 q66 q69
 ·refine H.h.run (λG _=>aL 0 (by decide) G) λ_ K F hr l h=> ?_;replace H:=H.up l h;replace q66:=l _ _ q66;replace q69:=l _ _ q69;obtain ⟨_,rfl,hw⟩:=hr;obtain ⟨m70,rfl,h70⟩:=hw.out;refine ⟨_,rfl,?_⟩;refine ⟨H.row,?_⟩;refine ⟨H.row,?_⟩;exact iW H h70 q66 q69
theorem Ai (H:EK K0 K F b0 b1 b2 n) {m70:Sl} (h70:RL K m70 (dia (tv 0)).1) {b63:Nat} (q63:K b63=some (.cells #[vi 4] 3)) {b69:Nat} (q69:K b69=some (.cells #[vi 0] 3)):qe #[Sl.v n,vi aK.2] #[Sl.v n,vi aK.2] #[Sl.v m70,vi (dia (tv 0)).2] b2 b63 b69 b1 b0 (ci K0) F:=by
 unfold qe;refine ⟨rfl,?_⟩;refine ⟨?_,?_⟩
 ·refine H.h.new λb66 K F l q66 h=> ?_;replace H:=H.up l h;replace h70:=h70.le l;replace q63:=l _ _ q63;replace q69:=l _ _ q69;exact rq H h70 q63 q66 q69
 ·refine H.h.run (λG hl=>bu (x:=0) (by decide) ((DV.mk h70).le hl)) λ_ K F hr l h=> ?_;replace H:=H.up l h;replace h70:=h70.le l;replace q63:=l _ _ q63;replace q69:=l _ _ q69;obtain ⟨_,rfl,hw⟩:=hr;obtain ⟨m71,rfl,h71⟩:=hw.out;refine ⟨_,rfl,?_⟩;refine ⟨H.row,?_⟩;refine ⟨H.row,?_⟩;exact iT H h71 q63 q69
theorem Aj (H:EK K0 K F b0 b1 b2 n) {m70:Sl} (h70:RL K m70 (dia (tv 0)).1) {b66:Nat} (q66:K b66=some (.cells #[vi 1] 3)) {b69:Nat} (q69:K b69=some (.cells #[vi 0] 3)):qh #[Sl.v n,vi aK.2] #[Sl.v n,vi aK.2] #[Sl.v m70,vi (dia (tv 0)).2] b2 b66 b69 b1 b0 (ci K0) F:=by
 unfold qh;refine ⟨rfl,?_⟩;refine ⟨?_,?_⟩
 ·refine H.h.new λb63 K F l q63 h=> ?_;replace H:=H.up l h;replace h70:=h70.le l;replace q66:=l _ _ q66;replace q69:=l _ _ q69;exact rB H h70 q63 q66 q69
 ·refine H.h.run (λG hl=>bu (x:=0) (by decide) ((DV.mk h70).le hl)) λ_ K F hr l h=> ?_;replace H:=H.up l h;replace h70:=h70.le l;replace q66:=l _ _ q66;replace q69:=l _ _ q69;obtain ⟨_,rfl,hw⟩:=hr;obtain ⟨m71,rfl,h71⟩:=hw.out;refine ⟨_,rfl,?_⟩;refine ⟨H.row,?_⟩;refine ⟨H.row,?_⟩;exact iV H h71 q66 q69
theorem Ak (H:EK K0 K F b0 b1 b2 n) {b63:Nat} (q63:K b63=some (.cells #[vi 4] 3)) {b69:Nat} (q69:K b69=some (.cells #[vi 0] 3)) {m71:Sl} (h71:RL K m71 (cQ 0).1):qi #[Sl.v n,vi aK.2] #[Sl.v n,vi aK.2] b63 b69 #[Sl.v m71,vi (cQ 0).2] b1 b0 (ci K0) F:=by unfold qi;refine ⟨rfl,?_⟩;refine H.h.new λb66 K F l q66 h=> ?_;replace H:=H.up l h;replace q63:=l _ _ q63;replace q69:=l _ _ q69;replace h71:=h71.le l;exact rt H q63 q66 q69 h71
theorem Al (H:EK K0 K F b0 b1 b2 n) {b66:Nat} (q66:K b66=some (.cells #[vi 1] 3)) {b69:Nat} (q69:K b69=some (.cells #[vi 0] 3)) {m71:Sl} (h71:RL K m71 (cQ 0).1):qj #[Sl.v n,vi aK.2] #[Sl.v n,vi aK.2] b66 b69 #[Sl.v m71,vi (cQ 0).2] b1 b0 (ci K0) F:=by unfold qj;refine ⟨rfl,?_⟩;refine H.h.new λb63 K F l q63 h=> ?_;replace H:=H.up l h;replace q66:=l _ _ q66;replace q69:=l _ _ q69;replace h71:=h71.le l;exact rC H q63 q66 q69 h71
theorem rG (H:EK K0 K F b0 b1 b2 n) {m71:Sl} (h71:RL K m71 (cQ 0).1) {b69:Nat} (q69:K b69=some (.cells #[vi 0] 3)):lj #[Sl.v m71,vi (cQ 0).2] #[Sl.v n,vi aK.2] #[Sl.v n,vi aK.2] b69 b1 b0 (ci K0) F:=by
 unfold lj;refine ⟨rfl,?_⟩;refine ⟨?_,?_⟩
 ·refine H.h.new λb63 K F l q63 h=> ?_;replace H:=H.up l h;replace h71:=h71.le l;replace q69:=l _ _ q69;exact Ak H q63 q69 h71
 ·refine H.h.new λb66 K F l q66 h=> ?_;replace H:=H.up l h;replace h71:=h71.le l;replace q69:=l _ _ q69;exact Al H q66 q69 h71
theorem rH (H:EK K0 K F b0 b1 b2 n) {m70:Sl} (h70:RL K m70 (dia (tv 0)).1) {b69:Nat} (q69:K b69=some (.cells #[vi 0] 3)):ln #[Sl.v n,vi aK.2] #[Sl.v n,vi aK.2] #[Sl.v m70,vi (dia (tv 0)).2] b2 b69 b1 b0 (ci K0) F:=by
 unfold ln;refine ⟨?_,?_,?_⟩
 ·refine H.h.new λb63 K F l q63 h=> ?_;replace H:=H.up l h;replace h70:=h70.le l;replace q69:=l _ _ q69;exact Ai H h70 q63 q69
 ·refine H.h.new λb66 K F l q66 h=> ?_;replace H:=H.up l h;replace h70:=h70.le l;replace q69:=l _ _ q69;exact Aj H h70 q66 q69
 ·refine H.h.run (λG hl=>bu (x:=0) (by decide) ((DV.mk h70).le hl)) λ_ K F hr l h=> ?_;replace H:=H.up l h;replace h70:=h70.le l;replace q69:=l _ _ q69;obtain ⟨_,rfl,hw⟩:=hr;obtain ⟨m71,rfl,h71⟩:=hw.out;refine ⟨_,rfl,?_⟩;refine ⟨H.row,?_⟩;refine ⟨H.row,?_⟩;exact rG H h71 q69
theorem An (H:EK K0 K F b0 b1 b2 n) {b69:Nat} (q69:K b69=some (.cells #[vi 0] 3)):ql #[Sl.v n,vi aK.2] #[Sl.v n,vi aK.2] b2 b69 b1 b0 (ci K0) F:=by
 unfold ql;refine ⟨?_,?_,?_⟩
 ·refine H.h.new λb63 K F l q63 h=> ?_;replace H:=H.up l h;replace q69:=l _ _ q69;exact Af H q63 q69
 ·refine H.h.new λb66 K F l q66 h=> ?_;replace H:=H.up l h;replace q69:=l _ _ q69;exact Ah H q66 q69
 ·refine H.h.run (λG _=>aL 0 (by decide) G) λ_ K F hr l h=> ?_;replace H:=H.up l h;replace q69:=l _ _ q69;obtain ⟨_,rfl,hw⟩:=hr;obtain ⟨m70,rfl,h70⟩:=hw.out;refine ⟨_,rfl,?_⟩;refine ⟨H.row,?_⟩;refine ⟨H.row,?_⟩;exact rH H h70 q69
theorem Ao (H:EK K0 K F b0 b1 b2 n) {m70:Sl} (h70:RL K m70 (dia (tv 0)).1) {b63:Nat} (q63:K b63=some (.cells #[vi 4] 3)):qn #[Sl.v n,vi aK.2] #[Sl.v n,vi aK.2] #[Sl.v m70,vi (dia (tv 0)).2] b2 b63 b1 b0 (ci K0) F:=by
 unfold qn;refine ⟨rfl,?_⟩;refine ⟨?_,?_,?_⟩
 ·refine H.h.new λb66 K F l q66 h=> ?_;replace H:=H.up l h;replace h70:=h70.le l;replace q63:=l _ _ q63;exact ru H h70 q63 q66
 ·refine H.h.new λb69 K F l q69 h=> ?_;replace H:=H.up l h;replace h70:=h70.le l;replace q63:=l _ _ q63;exact iU H h70 q63 q69
 ·refine H.h.run (λG hl=>bu (x:=0) (by decide) ((DV.mk h70).le hl)) λ_ K F hr l h=> ?_;replace H:=H.up l h;replace h70:=h70.le l;replace q63:=l _ _ q63;obtain ⟨_,rfl,hw⟩:=hr;obtain ⟨m71,rfl,h71⟩:=hw.out;refine ⟨_,rfl,?_⟩;refine ⟨H.row,?_⟩;refine ⟨H.row,?_⟩;exact rz H h71 q63
theorem Aq (H:EK K0 K F b0 b1 b2 n) {m70:Sl} (h70:RL K m70 (dia (tv 0)).1) {b66:Nat} (q66:K b66=some (.cells #[vi 1] 3)):qp #[Sl.v n,vi aK.2] #[Sl.v n,vi aK.2] #[Sl.v m70,vi (dia (tv 0)).2] b2 b66 b1 b0 (ci K0) F:=by
 unfold qp;refine ⟨rfl,?_⟩;refine ⟨?_,?_,?_⟩
 ·refine H.h.new λb63 K F l q63 h=> ?_;replace H:=H.up l h;replace h70:=h70.le l;replace q66:=l _ _ q66;exact rD H h70 q63 q66
 ·refine H.h.new λb69 K F l q69 h=> ?_;replace H:=H.up l h;replace h70:=h70.le l;replace q66:=l _ _ q66;exact iW H h70 q66 q69
 ·refine H.h.run (λG hl=>bu (x:=0) (by decide) ((DV.mk h70).le hl)) λ_ K F hr l h=> ?_;replace H:=H.up l h;replace h70:=h70.le l;replace q66:=l _ _ q66;obtain ⟨_,rfl,hw⟩:=hr;obtain ⟨m71,rfl,h71⟩:=hw.out;refine ⟨_,rfl,?_⟩;refine ⟨H.row,?_⟩;refine ⟨H.row,?_⟩;exact rF H h71 q66
theorem Ar (H:EK K0 K F b0 b1 b2 n) {m71:Sl} (h71:RL K m71 (cQ 0).1) {b63:Nat} (q63:K b63=some (.cells #[vi 4] 3)):qr #[Sl.v n,vi aK.2] #[Sl.v n,vi aK.2] #[Sl.v m71,vi (cQ 0).2] b63 b1 b0 (ci K0) F:=by
 unfold qr;refine ⟨rfl,?_⟩;refine ⟨?_,?_⟩
 ·refine H.h.new λb66 K F l q66 h=> ?_;replace H:=H.up l h;replace h71:=h71.le l;replace q63:=l _ _ q63;exact ry H h71 q63 q66
 ·refine H.h.new λb69 K F l q69 h=> ?_;replace H:=H.up l h;replace h71:=h71.le l;replace q63:=l _ _ q63;exact iT H h71 q63 q69
theorem At (H:EK K0 K F b0 b1 b2 n) {m71:Sl} (h71:RL K m71 (cQ 0).1) {b66:Nat} (q66:K b66=some (.cells #[vi 1] 3)):qt #[Sl.v n,vi aK.2] #[Sl.v n,vi aK.2] #[Sl.v m71,vi (cQ 0).2] b66 b1 b0 (ci K0) F:=by
 unfold qt;refine ⟨rfl,?_⟩;refine ⟨?_,?_⟩
 ·refine H.h.new λb63 K F l q63 h=> ?_;replace H:=H.up l h;replace h71:=h71.le l;replace q66:=l _ _ q66;exact rE H h71 q63 q66
 ·refine H.h.new λb69 K F l q69 h=> ?_;replace H:=H.up l h;replace h71:=h71.le l;replace q66:=l _ _ q66;exact iV H h71 q66 q69
theorem Au (H:EK K0 K F b0 b1 b2 n) {m71:Sl} (h71:RL K m71 (cQ 0).1):qv #[Sl.v n,vi aK.2] #[Sl.v n,vi aK.2] #[Sl.v m71,vi (cQ 0).2] b1 b0 (ci K0) F:=by
 unfold qv;refine ⟨?_,?_,?_⟩
 ·refine H.h.new λb63 K F l q63 h=> ?_;replace H:=H.up l h;replace h71:=h71.le l;exact Ar H h71 q63
 ·refine H.h.new λb66 K F l q66 h=> ?_;replace H:=H.up l h;replace h71:=h71.le l;exact At H h71 q66
 ·refine H.h.new λb69 K F l q69 h=> ?_;replace H:=H.up l h;replace h71:=h71.le l;exact rG H h71 q69
theorem Av (H:EK K0 K F b0 b1 b2 n) {m70:Sl} (h70:RL K m70 (dia (tv 0)).1):qw #[Sl.v n,vi aK.2] #[Sl.v n,vi aK.2] #[Sl.v m70,vi (dia (tv 0)).2] b2 b1 b0 (ci K0) F:=by
 unfold qw;refine ⟨?_,?_,?_,?_⟩
 ·refine H.h.new λb63 K F l q63 h=> ?_;replace H:=H.up l h;replace h70:=h70.le l;exact Ao H h70 q63
 ·refine H.h.new λb66 K F l q66 h=> ?_;replace H:=H.up l h;replace h70:=h70.le l;exact Aq H h70 q66
 ·refine H.h.new λb69 K F l q69 h=> ?_;replace H:=H.up l h;replace h70:=h70.le l;exact rH H h70 q69
 ·refine H.h.run (λG hl=>bu (x:=0) (by decide) ((DV.mk h70).le hl)) λ_ K F hr l h=> ?_;replace H:=H.up l h;replace h70:=h70.le l;obtain ⟨_,rfl,hw⟩:=hr;obtain ⟨m71,rfl,h71⟩:=hw.out;refine ⟨_,rfl,?_⟩;refine ⟨H.row,?_⟩;refine ⟨H.row,?_⟩;exact Au H h71
end
theorem lA (F:PH):aj prog 129 #[] F λr F'=>(∃w,r=.agg w/\GV F' w de)/\F.le F':=by
 refine NT ?_;unfold Ii;refine gj F [⟨#[69]⟩] rfl rfl λb0 b1 F1 h=> ?_;refine h.allv λb2 K1 F2 n l1 q hn h=> ?_;refine h.rule3 (dL 0) (cG 1) (dL 0) (by decide) λF2 h=> ?_;refine h.rule3 (dL 0) (cG 2) (dL 0) (by decide) λF2 h=> ?_;refine h.rule3 (cG 3) (dL 0) (cG 4) (by decide) λF2 h=> ?_;refine h.rule1 (cG 0) (by decide) λF2 h=> ?_;refine h.rule3 (dL 0) (cG 8) (dL 0) (by decide) λF2 h=> ?_;refine h.brk 2 rfl λF2 h=> ?_;refine h.cnd 4 rfl 1 (by decide) λF2 h=> ?_;refine ⟨_,rfl,ac (h.le _ _ q),_,rfl,ac (h.le _ _ q),?_⟩;have H:EK F _ _ b0 b1 b2 n:=⟨h,l1,q,hn⟩;refine ⟨?_,?_,?_,?_⟩
 ·refine H.h.new λb63 K F l q63 h=> ?_;replace H:=H.up l h;exact BF H q63
 ·refine H.h.new λb66 K F l q66 h=> ?_;replace H:=H.up l h;exact Ae H q66
 ·refine H.h.new λb69 K F l q69 h=> ?_;replace H:=H.up l h;exact An H q69
 ·refine H.h.run (λG _=>aL 0 (by decide) G) λ_ K F hr l h=> ?_;replace H:=H.up l h;obtain ⟨_,rfl,hw⟩:=hr;obtain ⟨m70,rfl,h70⟩:=hw.out;refine ⟨_,rfl,?_⟩;refine ⟨H.row,?_⟩;refine ⟨H.row,?_⟩;exact Av H h70
noncomputable def cn (k:Nat):Gr:=if k=0 then de else if k=1 then cI else if k=2 then eG else if k=3 then nC else if k=4 then j0 else j5
theorem wz (k:Nat) (F:PH):aj prog 80 #[.int .u8 (k:Int)] F λr F'=>(∃w,r=.agg w/\GV F' w (cn (k % 6)))/\F.le F':=by
 refine Qi ?_;unfold NN;refine (St.start F).new λb F1 h=> ?_;have e:Int.tmod (k:Int) 6=((k % 6:Nat):Int):=by rw [RO (by omega)];omega
 rw [e];have hk:k % 6<6:=RY _ (by decide);generalize k % 6=j at*;have fin:∀{v:Value} {G F1:PH},F.le G->(∃w,v=Value.agg w/\GV G w (cn j))->St G F1 [pt b (.cells zG 37)]->∃w:Γ,v=Value.agg w/\az F1 (Addr.mk b 0 none) 9 w λF2=>∃w:Γ,w.size=9/\F2.row (Addr.mk b 0 none) w/\((∃w',Value.agg w=Value.agg w'/\GV F2 w' (cn j))/\F.le F2):=λ{v G F1} hl hv h=>by obtain ⟨w,rfl,hv⟩:=hv;exact ⟨w,rfl,h.put0 (w':=w) hv.size rfl hv.st λF2 h=>⟨w,hv.size,h.whole0,⟨w,rfl,hv.le h.le⟩,aa hl h.le⟩⟩
 refine ⟨λh0=> ?_,λh0=>⟨λh1=> ?_,λh1=>⟨λh2=> ?_,λh2=>⟨λh3=> ?_,λh3=>⟨λh4=> ?_,λh4=> ?_⟩⟩⟩⟩⟩
 ·obtain rfl:j=0:=by omega
  exact h.run (lA _) λ_ G F2 hr l h=>fin l hr h
 ·obtain rfl:j=1:=by omega
  exact h.run (nf _) λ_ G F2 hr l h=>fin l hr h
 ·obtain rfl:j=2:=by omega
  exact h.run (j7 _) λ_ G F2 hr l h=>fin l hr h
 ·obtain rfl:j=3:=by omega
  exact h.run (uR _) λ_ G F2 hr l h=>fin l hr h
 ·obtain rfl:j=4:=by omega
  exact h.run (sT _) λ_ G F2 hr l h=>fin l hr h
 ·obtain rfl:j=5:=by omega
  exact h.run (sV _) λ_ G F2 hr l h=>fin l hr h
end Go.Proofs.YtcemhghkipgdiaaGreatDoor
