/-
  Known grammars with levels and filters; all of them. Printed by a program (mkIf.py).
-/
import Derived.Test.YtcemhghkipgdiaaGreatDoorIe
namespace Go.Proofs.YtcemhghkipgdiaaGreatDoor
open Go Go.Proofs.Tryz Tr
set_option maxRecDepth 10000
theorem eF {F:PH} {b:Nat} {e:TypeId} {x:Int} (q:F b=some (.cells #[vi x] e)):RL F (Sl.mk (some (Addr.mk b 0 none)) 1 1) [x]:=RL.ints.2 (RdS.new q rfl rfl (SC _))
theorem nW {F:PH} {x:Fi} {t n:Sl} (ht:RL F t x.toks) (hn:RL F n x.cond.1):Mem.rep F x (x.arr t n):=⟨t,n,rfl,ht,hn⟩
theorem fm {F:PH} {x:Lv} {p n:Sl} (hp:RL F p x.ps) (hn:RL F n x.cond.1):Mem.rep F x (x.arr p n):=⟨p,n,rfl,hp,hn⟩
theorem tI (F:PH):aj prog 133 #[] F λr F'=>(∃w,r=.agg w/\GV F' w gu)/\F.le F':=by refine O7 ?_;unfold Jz;refine gr F [⟨#[83]⟩,⟨#[87]⟩,⟨#[86]⟩] rfl rfl λb0 b1 F1 h=> ?_;refine h.rule2 (dX 1) (dX 2) (by decide) λF2 h=> ?_;refine h.rule1 (cL 0) (by decide) λF2 h=> ?_;refine h.rule2 (cL 0) (cL 0) (by decide) λF2 h=> ?_;refine h.rule0 (by decide) λF2 h=> ?_;refine h.rule2 (cL 0) (dX 2) (by decide) λF2 h=> ?_;refine h.rule2 (cL 1) (dX 2) (by decide) λF2 h=> ?_;refine h.rank 1 rfl λF2 h=> ?_;refine h.cnd 5 rfl 1 (by decide) λF2 h=> ?_;refine h.new λb64 K3 F3 l3 q64 h=> ?_;refine h.run (λG _=>aL 0 (by decide) G) λ_ K4 F4 hr l4 h=> ?_;obtain ⟨_,rfl,hw⟩:=hr;obtain ⟨m,rfl,hm⟩:=hw.out;refine ⟨_,rfl,rfl,?_⟩;refine h.new λb67 K5 F5 l5 q67 h=> ?_;refine h.run (λG _=>aL 1 (by decide) G) λ_ K6 F6 hr l6 h=> ?_;obtain ⟨_,rfl,hv⟩:=hr;refine ⟨_,rfl,?_⟩;refine h.run (λG hl=>bv (by decide) (hv.le hl)) λ_ K7 F7 hr l7 h=> ?_;obtain ⟨_,rfl,hw⟩:=hr;obtain ⟨m',rfl,hm'⟩:=hw.out;refine ⟨_,rfl,rfl,rfl,rfl,?_⟩;refine h.new λb71 K8 F8 l8 q71 h=> ?_;have l58:=aa l6 (aa l7 l8);have l48:=aa l5 l58;refine h.fils (x:=[⟨3,0,0,0,1,0,[0],dia (tv 0)⟩,⟨4,0,0,0,2,0,[1],cW 1⟩]) ⟨[_,_],.cons (nW (eF (l48 _ _ (l4 _ _ q64))) (hm.le l48)) (.cons (nW (eF (l58 _ _ q67)) (hm'.le l8)) .nil),RdS.new q71 (by kernel_rfl) rfl (SC _)⟩ λF9 h=> ?_;exact h.fin (R:=λr F'=>(∃w,r=.agg w/\GV F' w gu)/\F.le F') λw F' hv hl=>⟨⟨w,rfl,hv⟩,aa l3 (aa l4 (aa l48 hl))⟩
noncomputable def tJ:Gr:={(cz [⟨#[83]⟩,⟨#[67]⟩]) with prods:=bW.prods}
theorem zn {K F F0:PH} {b0 b1 b61 b64:Nat} {g:Gr} {c n t s sp l m v:Sl} {vs:List Γ} (hF:F0.le K) (hg:{g with fils:=[⟨2,0,2,1,0,0,[],dia (tv 0)⟩,⟨5,0,0,0,0,0,[5,6],dia (tv 1)⟩]}=bW)
  (st:St K F [pt b64 (.cells (wr (wr (#[.int .i64 0,.int .i64 0,.int .i64 0,.int .i64 0,.int .i64 0,.int .i64 0,.slice none 0 0,.slice none 0 0,.int .i64 0,.int .i64 0,.int .i64 0,.int .i64 0,.int .i64 0,.int .i64 0,.int .i64 0,.slice none 0 0,.slice none 0 0,.int .i64 0]:Γ) 0 (wr (Array.setIfInBounds (Array.setIfInBounds (Array.setIfInBounds (#[.int .i64 0,.int .i64 0,.int .i64 0,.int .i64 0,.int .i64 0,.int .i64 0,.slice none 0 0,.slice none 0 0,.int .i64 0]:Γ) 0 (vi 2)) 2 (vi 2)) 3 (vi 1)) 7 (#[m.v,vi (dia (tv 0)).2]:Γ).toList).toList) 9 (wr (Array.setIfInBounds (Array.setIfInBounds (#[.int .i64 0,.int .i64 0,.int .i64 0,.int .i64 0,.int .i64 0,.int .i64 0,.slice none 0 0,.slice none 0 0,.int .i64 0]:Γ) 0 (vi 5)) 6 (Sl.v (Sl.mk (some (Addr.mk b61 0 none)) 2 2))) 7 (#[v.v,vi aK.2]:Γ).toList).toList) 156),pt b1 (.cells (g.arr c n t s sp l (Sl.mk (some (Addr.mk b64 0 none)) 2 2)) 37),own sp 55 13 (cat vs),pt b0 (.cells zG 37)])
  (hr:cX K g.prods vs) (hc:RL K c g.conds) (hn:RL K n g.fam.1) (ht:RL K t g.toks) (hs:RL K s g.nons) (hl:RL K l g.lvs) (hm:RL K m (dia (tv 0)).1) (q61:RL K (Sl.mk (some (Addr.mk b61 0 none)) 2 2) [(5:Int),6]):
  oP b0 b1 (λr F'=>(∃w,r=.agg w/\GV F' w bW)/\F0.le F') F:=by
 unfold oP;refine ⟨_,st.ld1 rfl,?_⟩;refine st.run (aL 1 (by decide) _) λ_ K1 F1 hr1 l1 st=> ?_;obtain ⟨_,rfl,hw⟩:=hr1;obtain ⟨m1,rfl,hm1⟩:=hw.out;refine ⟨_,rfl,st.ld1 rfl,_,rfl,by decide,(by show (1:Int)<2;decide),?_⟩;simp only [aC];refine st.putR0 (o:=16) (w':= #[vi 2,vi 0,vi 2,vi 1,vi 0,vi 0,Sl.v Sl.nil,m.v,vi (dia (tv 0)).2,vi 5,vi 0,vi 0,vi 0,vi 0,vi 0,Sl.v (Sl.mk (some (Addr.mk b61 0 none)) 2 2),m1.v,vi (dia (tv 1)).2]) rfl (by simp [ak,Sl.v]) (by rw [dJ,dJ];show 16+2<=18;decide) (by kernel_rfl) λF2 st=> ?_;obtain ⟨K2,l2,⟨H,hA,hH⟩,st⟩:=st.pin;have q:=hH _ _ hA;have l12:=aa l1 l2;have hf:RL K2 (Sl.mk (some (Addr.mk b64 0 none)) 2 2) [(⟨2,0,2,1,0,0,[],dia (tv 0)⟩:Fi),⟨5,0,0,0,0,0,[5,6],dia (tv 1)⟩]:=
  ⟨[_,_],.cons (nW (t:=Sl.nil) (.nil _) (hm.le l12)) (.cons (nW (q61.le l12) (hm1.le l2)) .nil),RdS.new q (by kernel_rfl) rfl (SC _)⟩
 have h:KS K2 F2 b0 b1 bW:=by rw [<- hg];exact ⟨K2,c,n,t,s,sp,l,_,vs,aq _,st,hr.le l12,hc.le l12,hn.le l12,ht.le l12,hs.le l12,hl.le l12,hf⟩
 exact h.fin (R:=λr F'=>(∃w,r=.agg w/\GV F' w bW)/\F0.le F') λw F' hv hl=>⟨⟨w,rfl,hv⟩,aa hF (aa l12 hl)⟩
theorem nJ (F:PH):aj prog 130 #[] F λr F'=>(∃w,r=.agg w/\GV F' w bW)/\F.le F':=by
 refine O4 ?_;unfold Jw;refine gr F [⟨#[83]⟩,⟨#[67]⟩] rfl rfl λb0 b1 F1 h=> ?_;refine h.allv λb2 K1 F2 n l1 q hn h=> ?_;refine h.rule5 (cL 5) (dX 1) (dX 0) (cL 6) (dX 0) (by decide) λF2 h=> ?_;refine h.rule3 (cL 5) (dX 1) (dX 0) (by decide) λF2 h=> ?_;refine h.rule2 (dX 1) (cL 7) (by decide) λF2 h=> ?_;refine h.rule3 (cL 3) (dX 0) (cL 4) (by decide) λF2 h=> ?_;refine h.rule1 (cL 0) (by decide) λF2 h=> ?_;refine h.brk 3 rfl λF2 h=> ?_;refine ⟨_,rfl,ac (h.le _ _ q),?_⟩;obtain ⟨G,c,n',t,s,sp,l,f,vs,h⟩:=h;have hn:=hn.le h.k;have l1:=aa l1 h.k;refine ⟨?_,?_⟩
 ·refine h.st.run (aL 0 (by decide) _) λ_ K4 F4 hr l4 st=> ?_;obtain ⟨_,rfl,hw⟩:=hr;obtain ⟨m,rfl,hm⟩:=hw.out;refine ⟨_,rfl,ac (st.le _ _ (l4 _ _ (h.k _ _ q))),rfl,?_⟩;refine st.newG λb61 K5 F5 l5 q61 _ st=> ?_;refine ⟨rfl,rfl,rfl,?_⟩;refine st.new λb64 F6 st=> ?_;refine st.set1 (w':=(tJ.arr c n' t s sp l (Sl.mk (some (Addr.mk b64 0 none)) 2 2))) (by show 8<9;decide) rfl λF7 st=> ?_;have l45:=aa l4 l5;exact zn (g:=tJ) (aa l1 l45) rfl st (h.r.le l45) (h.c.le l45) (h.n.le l45) (h.t.le l45) (h.s.le l45) (h.l.le l45) (hm.le l5) (RL.ints.2 (RdS.new q61 rfl rfl (SC _)))
 ·refine h.st.newG λb61 K5 F5 l5 q61 _ st=> ?_;refine ⟨rfl,?_⟩;refine st.run (aL 0 (by decide) _) λ_ K4 F4 hr l4 st=> ?_;obtain ⟨_,rfl,hw⟩:=hr;obtain ⟨m,rfl,hm⟩:=hw.out;refine ⟨_,rfl,ac (st.le _ _ (l4 _ _ (l5 _ _ (h.k _ _ q)))),rfl,rfl,rfl,?_⟩;refine st.new λb64 F6 st=> ?_;refine st.set1 (w':=(tJ.arr c n' t s sp l (Sl.mk (some (Addr.mk b64 0 none)) 2 2))) (by show 8<9;decide) rfl λF7 st=> ?_;have l45:=aa l5 l4;exact zn (g:=tJ) (aa l1 l45) rfl st (h.r.le l45) (h.c.le l45) (h.n.le l45) (h.t.le l45) (h.s.le l45) (h.l.le l45) hm ((RL.ints.2 (RdS.new q61 rfl rfl (SC _))).le l4)
noncomputable def HM:Gr:={cw with lvs:=[]}
structure EK (K0 K F:PH) (b0 b1 b2:Nat) (n:Sl):Prop where
 h:KS K F b0 b1 HM
 l:K0.le K
 q:K b2=some (.cells #[Sl.v n,vi aK.2] 31)
 n:RL K n aK.1
theorem EK.up {K0 K F K' F':PH} {b0 b1 b2:Nat} {n:Sl} (H:EK K0 K F b0 b1 b2 n) (l:K.le K') (h:KS K' F' b0 b1 HM):EK K0 K' F' b0 b1 b2 n:=⟨h,aa H.l l,l _ _ H.q,H.n.le l⟩
theorem EK.row {K0 K F:PH} {b0 b1 b2:Nat} {n:Sl} (H:EK K0 K F b0 b1 b2 n):F.row (Addr.mk b2 0 none) #[Sl.v n,vi aK.2]:=ac (H.h.le _ _ H.q)
section
variable {K0 K F:PH} {b0 b1 b2:Nat} {n:Sl}
abbrev co (K0:PH):VR:=λr F'=>(∃w,r=.agg w/\GV F' w cw)/\K0.le F'
theorem JW (H:EK K0 K F b0 b1 b2 n) {b73:Nat} (hr:RL K (Sl.mk (some (Addr.mk b73 0 none)) 3 3) cw.lvs):kZ b1 b73 b0 (co K0) F:=by unfold kZ;refine H.h.lvs hr λF9 h=> ?_;unfold AI;exact h.fin (R:=co K0) λw F' hv hl=>⟨⟨w,rfl,hv⟩,aa H.l hl⟩
theorem gp (H:EK K0 K F b0 b1 b2 n) {m71:Sl} (h71:RL K m71 (cW 0).1) {b63:Nat} (q63:K b63=some (.cells #[vi 4] 3)) {b66:Nat} (q66:K b66=some (.cells #[vi 1] 3)) {b69:Nat} (q69:K b69=some (.cells #[vi 0] 3)):f8 #[Sl.v m71,vi (cW 0).2] b63 #[Sl.v n,vi aK.2] b66 #[Sl.v n,vi aK.2] b69 b1 b0 (co K0) F:=by unfold f8;refine ⟨rfl,?_⟩;refine ⟨rfl,?_⟩;refine ⟨rfl,?_⟩;refine ⟨rfl,?_⟩;refine H.h.new λb73 K F l q73 h=> ?_;replace H:=H.up l h;replace h71:=h71.le l;replace q63:=l _ _ q63;replace q66:=l _ _ q66;replace q69:=l _ _ q69;exact JW H ⟨[_,_,_],.cons (fm (eF q63) H.n) (.cons (fm (eF q66) H.n) (.cons (fm (eF q69) h71) .nil)),RdS.new q73 (by kernel_rfl) rfl (SC _)⟩
theorem gq (H:EK K0 K F b0 b1 b2 n) {m70:Sl} (h70:RL K m70 (dia (tv 0)).1) {b63:Nat} (q63:K b63=some (.cells #[vi 4] 3)) {b66:Nat} (q66:K b66=some (.cells #[vi 1] 3)) {b69:Nat} (q69:K b69=some (.cells #[vi 0] 3)):ga #[Sl.v m70,vi (dia (tv 0)).2] b2 #[Sl.v n,vi aK.2] #[Sl.v n,vi aK.2] b63 b66 b69 b1 b0 (co K0) F:=by unfold ga;refine H.h.run (λG hl=>bv (x:=0) (by decide) ((DV.mk h70).le hl)) λ_ K F hr l h=> ?_;replace H:=H.up l h;replace h70:=h70.le l;replace q63:=l _ _ q63;replace q66:=l _ _ q66;replace q69:=l _ _ q69;obtain ⟨_,rfl,hw⟩:=hr;obtain ⟨m71,rfl,h71⟩:=hw.out;refine ⟨_,rfl,?_⟩;refine ⟨H.row,?_⟩;refine ⟨H.row,?_⟩;exact gp H h71 q63 q66 q69
theorem vz (H:EK K0 K F b0 b1 b2 n) {b63:Nat} (q63:K b63=some (.cells #[vi 4] 3)) {b66:Nat} (q66:K b66=some (.cells #[vi 1] 3)) {b69:Nat} (q69:K b69=some (.cells #[vi 0] 3)):oN b2 #[Sl.v n,vi aK.2] #[Sl.v n,vi aK.2] b63 b66 b69 b1 b0 (co K0) F:=by unfold oN;refine H.h.run (λG _=>aL 0 (by decide) G) λ_ K F hr l h=> ?_;replace H:=H.up l h;replace q63:=l _ _ q63;replace q66:=l _ _ q66;replace q69:=l _ _ q69;obtain ⟨_,rfl,hw⟩:=hr;obtain ⟨m70,rfl,h70⟩:=hw.out;refine ⟨_,rfl,?_⟩;refine ⟨H.row,?_⟩;refine ⟨H.row,?_⟩;exact gq H h70 q63 q66 q69
theorem pm (H:EK K0 K F b0 b1 b2 n) {m71:Sl} (h71:RL K m71 (cW 0).1) {b63:Nat} (q63:K b63=some (.cells #[vi 4] 3)) {b66:Nat} (q66:K b66=some (.cells #[vi 1] 3)):lf #[Sl.v m71,vi (cW 0).2] b63 #[Sl.v n,vi aK.2] b66 #[Sl.v n,vi aK.2] b1 b0 (co K0) F:=by unfold lf;refine H.h.new λb69 K F l q69 h=> ?_;replace H:=H.up l h;replace h71:=h71.le l;replace q63:=l _ _ q63;replace q66:=l _ _ q66;exact gp H h71 q63 q66 q69
theorem vA (H:EK K0 K F b0 b1 b2 n) {m70:Sl} (h70:RL K m70 (dia (tv 0)).1) {b63:Nat} (q63:K b63=some (.cells #[vi 4] 3)) {b66:Nat} (q66:K b66=some (.cells #[vi 1] 3)):oO #[Sl.v m70,vi (dia (tv 0)).2] b2 #[Sl.v n,vi aK.2] #[Sl.v n,vi aK.2] b63 b66 b1 b0 (co K0) F:=by
 unfold oO;refine ⟨?_,?_⟩
 ·refine H.h.new λb69 K F l q69 h=> ?_;replace H:=H.up l h;replace h70:=h70.le l;replace q63:=l _ _ q63;replace q66:=l _ _ q66;exact gq H h70 q63 q66 q69
 ·refine H.h.run (λG hl=>bv (x:=0) (by decide) ((DV.mk h70).le hl)) λ_ K F hr l h=> ?_;replace H:=H.up l h;replace h70:=h70.le l;replace q63:=l _ _ q63;replace q66:=l _ _ q66;obtain ⟨_,rfl,hw⟩:=hr;obtain ⟨m71,rfl,h71⟩:=hw.out;refine ⟨_,rfl,?_⟩;refine ⟨H.row,?_⟩;refine ⟨H.row,?_⟩;exact pm H h71 q63 q66
theorem CE (H:EK K0 K F b0 b1 b2 n) {b63:Nat} (q63:K b63=some (.cells #[vi 4] 3)) {b66:Nat} (q66:K b66=some (.cells #[vi 1] 3)):uC #[Sl.v n,vi aK.2] b2 #[Sl.v n,vi aK.2] b63 b66 b1 b0 (co K0) F:=by
 unfold uC;refine ⟨rfl,?_⟩;refine ⟨?_,?_⟩
 ·refine H.h.new λb69 K F l q69 h=> ?_;replace H:=H.up l h;replace q63:=l _ _ q63;replace q66:=l _ _ q66;exact vz H q63 q66 q69
 ·refine H.h.run (λG _=>aL 0 (by decide) G) λ_ K F hr l h=> ?_;replace H:=H.up l h;replace q63:=l _ _ q63;replace q66:=l _ _ q66;obtain ⟨_,rfl,hw⟩:=hr;obtain ⟨m70,rfl,h70⟩:=hw.out;refine ⟨_,rfl,?_⟩;refine ⟨H.row,?_⟩;refine ⟨H.row,?_⟩;exact vA H h70 q63 q66
theorem rS (H:EK K0 K F b0 b1 b2 n) {b63:Nat} (q63:K b63=some (.cells #[vi 4] 3)) {b66:Nat} (q66:K b66=some (.cells #[vi 1] 3)) {b69:Nat} (q69:K b69=some (.cells #[vi 0] 3)):lh #[Sl.v n,vi aK.2] b2 #[Sl.v n,vi aK.2] b63 b66 b69 b1 b0 (co K0) F:=by unfold lh;refine ⟨rfl,?_⟩;refine H.h.run (λG _=>aL 0 (by decide) G) λ_ K F hr l h=> ?_;replace H:=H.up l h;replace q63:=l _ _ q63;replace q66:=l _ _ q66;replace q69:=l _ _ q69;obtain ⟨_,rfl,hw⟩:=hr;obtain ⟨m70,rfl,h70⟩:=hw.out;refine ⟨_,rfl,?_⟩;refine ⟨H.row,?_⟩;refine ⟨H.row,?_⟩;exact gq H h70 q63 q66 q69
theorem rT (H:EK K0 K F b0 b1 b2 n) {m70:Sl} (h70:RL K m70 (dia (tv 0)).1) {b63:Nat} (q63:K b63=some (.cells #[vi 4] 3)) {b66:Nat} (q66:K b66=some (.cells #[vi 1] 3)) {b69:Nat} (q69:K b69=some (.cells #[vi 0] 3)):li #[Sl.v n,vi aK.2] #[Sl.v m70,vi (dia (tv 0)).2] b2 #[Sl.v n,vi aK.2] b63 b66 b69 b1 b0 (co K0) F:=by unfold li;refine ⟨rfl,?_⟩;refine H.h.run (λG hl=>bv (x:=0) (by decide) ((DV.mk h70).le hl)) λ_ K F hr l h=> ?_;replace H:=H.up l h;replace h70:=h70.le l;replace q63:=l _ _ q63;replace q66:=l _ _ q66;replace q69:=l _ _ q69;obtain ⟨_,rfl,hw⟩:=hr;obtain ⟨m71,rfl,h71⟩:=hw.out;refine ⟨_,rfl,?_⟩;refine ⟨H.row,?_⟩;refine ⟨H.row,?_⟩;exact gp H h71 q63 q66 q69
theorem rU (H:EK K0 K F b0 b1 b2 n) {b63:Nat} (q63:K b63=some (.cells #[vi 4] 3)) {b66:Nat} (q66:K b66=some (.cells #[vi 1] 3)) {b69:Nat} (q69:K b69=some (.cells #[vi 0] 3)) {m71:Sl} (h71:RL K m71 (cW 0).1):lj #[Sl.v n,vi aK.2] b63 #[Sl.v n,vi aK.2] b66 b69 #[Sl.v m71,vi (cW 0).2] b1 b0 (co K0) F:=by unfold lj;refine ⟨rfl,?_⟩;refine ⟨rfl,?_⟩;refine ⟨rfl,?_⟩;refine ⟨rfl,?_⟩;refine H.h.new λb73 K F l q73 h=> ?_;replace H:=H.up l h;replace q63:=l _ _ q63;replace q66:=l _ _ q66;replace q69:=l _ _ q69;replace h71:=h71.le l;exact JW H ⟨[_,_,_],.cons (fm (eF q63) H.n) (.cons (fm (eF q66) H.n) (.cons (fm (eF q69) h71) .nil)),RdS.new q73 (by kernel_rfl) rfl (SC _)⟩
theorem jd (H:EK K0 K F b0 b1 b2 n) {m71:Sl} (h71:RL K m71 (cW 0).1) {b63:Nat} (q63:K b63=some (.cells #[vi 4] 3)) {b69:Nat} (q69:K b69=some (.cells #[vi 0] 3)):gH #[Sl.v m71,vi (cW 0).2] #[Sl.v n,vi aK.2] b63 #[Sl.v n,vi aK.2] b69 b1 b0 (co K0) F:=by unfold gH;refine ⟨rfl,?_⟩;refine H.h.new λb66 K F l q66 h=> ?_;replace H:=H.up l h;replace h71:=h71.le l;replace q63:=l _ _ q63;replace q69:=l _ _ q69;exact rU H q63 q66 q69 h71
theorem je (H:EK K0 K F b0 b1 b2 n) {m70:Sl} (h70:RL K m70 (dia (tv 0)).1) {b63:Nat} (q63:K b63=some (.cells #[vi 4] 3)) {b69:Nat} (q69:K b69=some (.cells #[vi 0] 3)):gI #[Sl.v n,vi aK.2] #[Sl.v m70,vi (dia (tv 0)).2] b2 #[Sl.v n,vi aK.2] b63 b69 b1 b0 (co K0) F:=by
 unfold gI;refine ⟨?_,?_⟩
 ·refine H.h.new λb66 K F l q66 h=> ?_;replace H:=H.up l h;replace h70:=h70.le l;replace q63:=l _ _ q63;replace q69:=l _ _ q69;exact rT H h70 q63 q66 q69
 ·refine H.h.run (λG hl=>bv (x:=0) (by decide) ((DV.mk h70).le hl)) λ_ K F hr l h=> ?_;replace H:=H.up l h;replace h70:=h70.le l;replace q63:=l _ _ q63;replace q69:=l _ _ q69;obtain ⟨_,rfl,hw⟩:=hr;obtain ⟨m71,rfl,h71⟩:=hw.out;refine ⟨_,rfl,?_⟩;refine ⟨H.row,?_⟩;refine ⟨H.row,?_⟩;exact jd H h71 q63 q69
theorem A8 (H:EK K0 K F b0 b1 b2 n) {b63:Nat} (q63:K b63=some (.cells #[vi 4] 3)) {b69:Nat} (q69:K b69=some (.cells #[vi 0] 3)):qA #[Sl.v n,vi aK.2] b2 #[Sl.v n,vi aK.2] b63 b69 b1 b0 (co K0) F:=by
 unfold qA;refine ⟨?_,?_⟩
 ·refine H.h.new λb66 K F l q66 h=> ?_;replace H:=H.up l h;replace q63:=l _ _ q63;replace q69:=l _ _ q69;exact rS H q63 q66 q69
 ·refine H.h.run (λG _=>aL 0 (by decide) G) λ_ K F hr l h=> ?_;replace H:=H.up l h;replace q63:=l _ _ q63;replace q69:=l _ _ q69;obtain ⟨_,rfl,hw⟩:=hr;obtain ⟨m70,rfl,h70⟩:=hw.out;refine ⟨_,rfl,?_⟩;refine ⟨H.row,?_⟩;refine ⟨H.row,?_⟩;exact je H h70 q63 q69
theorem rV (H:EK K0 K F b0 b1 b2 n) {m70:Sl} (h70:RL K m70 (dia (tv 0)).1) {b63:Nat} (q63:K b63=some (.cells #[vi 4] 3)) {b66:Nat} (q66:K b66=some (.cells #[vi 1] 3)):ln #[Sl.v n,vi aK.2] #[Sl.v m70,vi (dia (tv 0)).2] b2 #[Sl.v n,vi aK.2] b63 b66 b1 b0 (co K0) F:=by
 unfold ln;refine ⟨rfl,?_⟩;refine ⟨?_,?_⟩
 ·refine H.h.new λb69 K F l q69 h=> ?_;replace H:=H.up l h;replace h70:=h70.le l;replace q63:=l _ _ q63;replace q66:=l _ _ q66;exact gq H h70 q63 q66 q69
 ·refine H.h.run (λG hl=>bv (x:=0) (by decide) ((DV.mk h70).le hl)) λ_ K F hr l h=> ?_;replace H:=H.up l h;replace h70:=h70.le l;replace q63:=l _ _ q63;replace q66:=l _ _ q66;obtain ⟨_,rfl,hw⟩:=hr;obtain ⟨m71,rfl,h71⟩:=hw.out;refine ⟨_,rfl,?_⟩;refine ⟨H.row,?_⟩;refine ⟨H.row,?_⟩;exact pm H h71 q63 q66
theorem rW (H:EK K0 K F b0 b1 b2 n) {m71:Sl} (h71:RL K m71 (cW 0).1) {b63:Nat} (q63:K b63=some (.cells #[vi 4] 3)) {b66:Nat} (q66:K b66=some (.cells #[vi 1] 3)):lq #[Sl.v n,vi aK.2] #[Sl.v m71,vi (cW 0).2] b63 #[Sl.v n,vi aK.2] b66 b1 b0 (co K0) F:=by unfold lq;refine ⟨rfl,?_⟩;refine H.h.new λb69 K F l q69 h=> ?_;replace H:=H.up l h;replace h71:=h71.le l;replace q63:=l _ _ q63;replace q66:=l _ _ q66;exact gp H h71 q63 q66 q69
theorem rX (H:EK K0 K F b0 b1 b2 n) {m71:Sl} (h71:RL K m71 (cW 0).1) {b63:Nat} (q63:K b63=some (.cells #[vi 4] 3)):lr #[Sl.v n,vi aK.2] #[Sl.v m71,vi (cW 0).2] b63 #[Sl.v n,vi aK.2] b1 b0 (co K0) F:=by
 unfold lr;refine ⟨?_,?_⟩
 ·refine H.h.new λb66 K F l q66 h=> ?_;replace H:=H.up l h;replace h71:=h71.le l;replace q63:=l _ _ q63;exact rW H h71 q63 q66
 ·refine H.h.new λb69 K F l q69 h=> ?_;replace H:=H.up l h;replace h71:=h71.le l;replace q63:=l _ _ q63;exact jd H h71 q63 q69
theorem A9 (H:EK K0 K F b0 b1 b2 n) {m70:Sl} (h70:RL K m70 (dia (tv 0)).1) {b63:Nat} (q63:K b63=some (.cells #[vi 4] 3)):qB #[Sl.v n,vi aK.2] #[Sl.v m70,vi (dia (tv 0)).2] b2 #[Sl.v n,vi aK.2] b63 b1 b0 (co K0) F:=by
 unfold qB;refine ⟨?_,?_,?_⟩
 ·refine H.h.new λb66 K F l q66 h=> ?_;replace H:=H.up l h;replace h70:=h70.le l;replace q63:=l _ _ q63;exact rV H h70 q63 q66
 ·refine H.h.new λb69 K F l q69 h=> ?_;replace H:=H.up l h;replace h70:=h70.le l;replace q63:=l _ _ q63;exact je H h70 q63 q69
 ·refine H.h.run (λG hl=>bv (x:=0) (by decide) ((DV.mk h70).le hl)) λ_ K F hr l h=> ?_;replace H:=H.up l h;replace h70:=h70.le l;replace q63:=l _ _ q63;obtain ⟨_,rfl,hw⟩:=hr;obtain ⟨m71,rfl,h71⟩:=hw.out;refine ⟨_,rfl,?_⟩;refine ⟨H.row,?_⟩;refine ⟨H.row,?_⟩;exact rX H h71 q63
theorem CF (H:EK K0 K F b0 b1 b2 n) {b63:Nat} (q63:K b63=some (.cells #[vi 4] 3)):uD #[Sl.v n,vi aK.2] #[Sl.v n,vi aK.2] b2 b63 b1 b0 (co K0) F:=by
 unfold uD;refine ⟨rfl,?_⟩;refine ⟨?_,?_,?_⟩
 ·refine H.h.new λb66 K F l q66 h=> ?_;replace H:=H.up l h;replace q63:=l _ _ q63;exact CE H q63 q66
 ·refine H.h.new λb69 K F l q69 h=> ?_;replace H:=H.up l h;replace q63:=l _ _ q63;exact A8 H q63 q69
 ·refine H.h.run (λG _=>aL 0 (by decide) G) λ_ K F hr l h=> ?_;replace H:=H.up l h;replace q63:=l _ _ q63;obtain ⟨_,rfl,hw⟩:=hr;obtain ⟨m70,rfl,h70⟩:=hw.out;refine ⟨_,rfl,?_⟩;refine ⟨H.row,?_⟩;refine ⟨H.row,?_⟩;exact A9 H h70 q63
theorem Ba (H:EK K0 K F b0 b1 b2 n) {b63:Nat} (q63:K b63=some (.cells #[vi 4] 3)) {b66:Nat} (q66:K b66=some (.cells #[vi 1] 3)):qC #[Sl.v n,vi aK.2] b2 #[Sl.v n,vi aK.2] b63 b66 b1 b0 (co K0) F:=by
 unfold qC;refine ⟨rfl,?_⟩;refine ⟨?_,?_⟩
 ·refine H.h.new λb69 K F l q69 h=> ?_;replace H:=H.up l h;replace q63:=l _ _ q63;replace q66:=l _ _ q66;exact vz H q63 q66 q69
 ·refine H.h.run (λG _=>aL 0 (by decide) G) λ_ K F hr l h=> ?_;replace H:=H.up l h;replace q63:=l _ _ q63;replace q66:=l _ _ q66;obtain ⟨_,rfl,hw⟩:=hr;obtain ⟨m70,rfl,h70⟩:=hw.out;refine ⟨_,rfl,?_⟩;refine ⟨H.row,?_⟩;refine ⟨H.row,?_⟩;exact vA H h70 q63 q66
theorem rY (H:EK K0 K F b0 b1 b2 n) {b63:Nat} (q63:K b63=some (.cells #[vi 4] 3)) {b66:Nat} (q66:K b66=some (.cells #[vi 1] 3)) {b69:Nat} (q69:K b69=some (.cells #[vi 0] 3)):lu #[Sl.v n,vi aK.2] b2 #[Sl.v n,vi aK.2] b63 b66 b69 b1 b0 (co K0) F:=by unfold lu;refine ⟨rfl,?_⟩;refine H.h.run (λG _=>aL 0 (by decide) G) λ_ K F hr l h=> ?_;replace H:=H.up l h;replace q63:=l _ _ q63;replace q66:=l _ _ q66;replace q69:=l _ _ q69;obtain ⟨_,rfl,hw⟩:=hr;obtain ⟨m70,rfl,h70⟩:=hw.out;refine ⟨_,rfl,?_⟩;refine ⟨H.row,?_⟩;refine ⟨H.row,?_⟩;exact gq H h70 q63 q66 q69
theorem rZ (H:EK K0 K F b0 b1 b2 n) {m70:Sl} (h70:RL K m70 (dia (tv 0)).1) {b63:Nat} (q63:K b63=some (.cells #[vi 4] 3)) {b66:Nat} (q66:K b66=some (.cells #[vi 1] 3)) {b69:Nat} (q69:K b69=some (.cells #[vi 0] 3)):lw #[Sl.v n,vi aK.2] #[Sl.v m70,vi (dia (tv 0)).2] b2 #[Sl.v n,vi aK.2] b63 b66 b69 b1 b0 (co K0) F:=by unfold lw;refine ⟨rfl,?_⟩;refine H.h.run (λG hl=>bv (x:=0) (by decide) ((DV.mk h70).le hl)) λ_ K F hr l h=> ?_;replace H:=H.up l h;replace h70:=h70.le l;replace q63:=l _ _ q63;replace q66:=l _ _ q66;replace q69:=l _ _ q69;obtain ⟨_,rfl,hw⟩:=hr;obtain ⟨m71,rfl,h71⟩:=hw.out;refine ⟨_,rfl,?_⟩;refine ⟨H.row,?_⟩;refine ⟨H.row,?_⟩;exact gp H h71 q63 q66 q69
theorem r4 (H:EK K0 K F b0 b1 b2 n) {b63:Nat} (q63:K b63=some (.cells #[vi 4] 3)) {b66:Nat} (q66:K b66=some (.cells #[vi 1] 3)) {b69:Nat} (q69:K b69=some (.cells #[vi 0] 3)) {m71:Sl} (h71:RL K m71 (cW 0).1):ly #[Sl.v n,vi aK.2] b63 b66 #[Sl.v n,vi aK.2] b69 #[Sl.v m71,vi (cW 0).2] b1 b0 (co K0) F:=by unfold ly;refine ⟨rfl,?_⟩;refine ⟨rfl,?_⟩;refine ⟨rfl,?_⟩;refine ⟨rfl,?_⟩;refine H.h.new λb73 K F l q73 h=> ?_;replace H:=H.up l h;replace q63:=l _ _ q63;replace q66:=l _ _ q66;replace q69:=l _ _ q69;replace h71:=h71.le l;exact JW H ⟨[_,_,_],.cons (fm (eF q63) H.n) (.cons (fm (eF q66) H.n) (.cons (fm (eF q69) h71) .nil)),RdS.new q73 (by kernel_rfl) rfl (SC _)⟩
theorem jf (H:EK K0 K F b0 b1 b2 n) {m71:Sl} (h71:RL K m71 (cW 0).1) {b66:Nat} (q66:K b66=some (.cells #[vi 1] 3)) {b69:Nat} (q69:K b69=some (.cells #[vi 0] 3)):gJ #[Sl.v m71,vi (cW 0).2] #[Sl.v n,vi aK.2] b66 #[Sl.v n,vi aK.2] b69 b1 b0 (co K0) F:=by unfold gJ;refine ⟨rfl,?_⟩;refine H.h.new λb63 K F l q63 h=> ?_;replace H:=H.up l h;replace h71:=h71.le l;replace q66:=l _ _ q66;replace q69:=l _ _ q69;exact r4 H q63 q66 q69 h71
theorem jg (H:EK K0 K F b0 b1 b2 n) {m70:Sl} (h70:RL K m70 (dia (tv 0)).1) {b66:Nat} (q66:K b66=some (.cells #[vi 1] 3)) {b69:Nat} (q69:K b69=some (.cells #[vi 0] 3)):gK #[Sl.v n,vi aK.2] #[Sl.v m70,vi (dia (tv 0)).2] b2 #[Sl.v n,vi aK.2] b66 b69 b1 b0 (co K0) F:=by
 unfold gK;refine ⟨?_,?_⟩
 ·refine H.h.new λb63 K F l q63 h=> ?_;replace H:=H.up l h;replace h70:=h70.le l;replace q66:=l _ _ q66;replace q69:=l _ _ q69;exact rZ H h70 q63 q66 q69
 ·refine H.h.run (λG hl=>bv (x:=0) (by decide) ((DV.mk h70).le hl)) λ_ K F hr l h=> ?_;replace H:=H.up l h;replace h70:=h70.le l;replace q66:=l _ _ q66;replace q69:=l _ _ q69;obtain ⟨_,rfl,hw⟩:=hr;obtain ⟨m71,rfl,h71⟩:=hw.out;refine ⟨_,rfl,?_⟩;refine ⟨H.row,?_⟩;refine ⟨H.row,?_⟩;exact jf H h71 q66 q69
theorem Be (H:EK K0 K F b0 b1 b2 n) {b66:Nat} (q66:K b66=some (.cells #[vi 1] 3)) {b69:Nat} (q69:K b69=some (.cells #[vi 0] 3)):qD #[Sl.v n,vi aK.2] b2 #[Sl.v n,vi aK.2] b66 b69 b1 b0 (co K0) F:=by
 unfold qD;refine ⟨?_,?_⟩
 ·refine H.h.new λb63 K F l q63 h=> ?_;replace H:=H.up l h;replace q66:=l _ _ q66;replace q69:=l _ _ q69;exact rY H q63 q66 q69
 ·refine H.h.run (λG _=>aL 0 (by decide) G) λ_ K F hr l h=> ?_;replace H:=H.up l h;replace q66:=l _ _ q66;replace q69:=l _ _ q69;obtain ⟨_,rfl,hw⟩:=hr;obtain ⟨m70,rfl,h70⟩:=hw.out;refine ⟨_,rfl,?_⟩;refine ⟨H.row,?_⟩;refine ⟨H.row,?_⟩;exact jg H h70 q66 q69
theorem r5 (H:EK K0 K F b0 b1 b2 n) {m70:Sl} (h70:RL K m70 (dia (tv 0)).1) {b63:Nat} (q63:K b63=some (.cells #[vi 4] 3)) {b66:Nat} (q66:K b66=some (.cells #[vi 1] 3)):lz #[Sl.v n,vi aK.2] #[Sl.v m70,vi (dia (tv 0)).2] b2 #[Sl.v n,vi aK.2] b63 b66 b1 b0 (co K0) F:=by
 unfold lz;refine ⟨rfl,?_⟩;refine ⟨?_,?_⟩
 ·refine H.h.new λb69 K F l q69 h=> ?_;replace H:=H.up l h;replace h70:=h70.le l;replace q63:=l _ _ q63;replace q66:=l _ _ q66;exact gq H h70 q63 q66 q69
 ·refine H.h.run (λG hl=>bv (x:=0) (by decide) ((DV.mk h70).le hl)) λ_ K F hr l h=> ?_;replace H:=H.up l h;replace h70:=h70.le l;replace q63:=l _ _ q63;replace q66:=l _ _ q66;obtain ⟨_,rfl,hw⟩:=hr;obtain ⟨m71,rfl,h71⟩:=hw.out;refine ⟨_,rfl,?_⟩;refine ⟨H.row,?_⟩;refine ⟨H.row,?_⟩;exact pm H h71 q63 q66
theorem r7 (H:EK K0 K F b0 b1 b2 n) {m71:Sl} (h71:RL K m71 (cW 0).1) {b63:Nat} (q63:K b63=some (.cells #[vi 4] 3)) {b66:Nat} (q66:K b66=some (.cells #[vi 1] 3)):lA #[Sl.v n,vi aK.2] #[Sl.v m71,vi (cW 0).2] b63 b66 #[Sl.v n,vi aK.2] b1 b0 (co K0) F:=by unfold lA;refine ⟨rfl,?_⟩;refine H.h.new λb69 K F l q69 h=> ?_;replace H:=H.up l h;replace h71:=h71.le l;replace q63:=l _ _ q63;replace q66:=l _ _ q66;exact gp H h71 q63 q66 q69
theorem sc (H:EK K0 K F b0 b1 b2 n) {m71:Sl} (h71:RL K m71 (cW 0).1) {b66:Nat} (q66:K b66=some (.cells #[vi 1] 3)):lC #[Sl.v n,vi aK.2] #[Sl.v m71,vi (cW 0).2] b66 #[Sl.v n,vi aK.2] b1 b0 (co K0) F:=by
 unfold lC;refine ⟨?_,?_⟩
 ·refine H.h.new λb63 K F l q63 h=> ?_;replace H:=H.up l h;replace h71:=h71.le l;replace q66:=l _ _ q66;exact r7 H h71 q63 q66
 ·refine H.h.new λb69 K F l q69 h=> ?_;replace H:=H.up l h;replace h71:=h71.le l;replace q66:=l _ _ q66;exact jf H h71 q66 q69
theorem Bf (H:EK K0 K F b0 b1 b2 n) {m70:Sl} (h70:RL K m70 (dia (tv 0)).1) {b66:Nat} (q66:K b66=some (.cells #[vi 1] 3)):qE #[Sl.v n,vi aK.2] #[Sl.v m70,vi (dia (tv 0)).2] b2 #[Sl.v n,vi aK.2] b66 b1 b0 (co K0) F:=by
 unfold qE;refine ⟨?_,?_,?_⟩
 ·refine H.h.new λb63 K F l q63 h=> ?_;replace H:=H.up l h;replace h70:=h70.le l;replace q66:=l _ _ q66;exact r5 H h70 q63 q66
 ·refine H.h.new λb69 K F l q69 h=> ?_;replace H:=H.up l h;replace h70:=h70.le l;replace q66:=l _ _ q66;exact jg H h70 q66 q69
 ·refine H.h.run (λG hl=>bv (x:=0) (by decide) ((DV.mk h70).le hl)) λ_ K F hr l h=> ?_;replace H:=H.up l h;replace h70:=h70.le l;replace q66:=l _ _ q66;obtain ⟨_,rfl,hw⟩:=hr;obtain ⟨m71,rfl,h71⟩:=hw.out;refine ⟨_,rfl,?_⟩;refine ⟨H.row,?_⟩;refine ⟨H.row,?_⟩;exact sc H h71 q66
theorem Bg (H:EK K0 K F b0 b1 b2 n) {b66:Nat} (q66:K b66=some (.cells #[vi 1] 3)):qF #[Sl.v n,vi aK.2] #[Sl.v n,vi aK.2] b2 b66 b1 b0 (co K0) F:=by
 unfold qF;refine ⟨rfl,?_⟩;refine ⟨?_,?_,?_⟩
 ·refine H.h.new λb63 K F l q63 h=> ?_;replace H:=H.up l h;replace q66:=l _ _ q66;exact Ba H q63 q66
 ·refine H.h.new λb69 K F l q69 h=> ?_;replace H:=H.up l h;replace q66:=l _ _ q66;exact Be H q66 q69
 ·refine H.h.run (λG _=>aL 0 (by decide) G) λ_ K F hr l h=> ?_;replace H:=H.up l h;replace q66:=l _ _ q66;obtain ⟨_,rfl,hw⟩:=hr;obtain ⟨m70,rfl,h70⟩:=hw.out;refine ⟨_,rfl,?_⟩;refine ⟨H.row,?_⟩;refine ⟨H.row,?_⟩;exact Bf H h70 q66
theorem Bh (H:EK K0 K F b0 b1 b2 n) {b63:Nat} (q63:K b63=some (.cells #[vi 4] 3)) {b69:Nat} (q69:K b69=some (.cells #[vi 0] 3)):qG #[Sl.v n,vi aK.2] #[Sl.v n,vi aK.2] b2 b63 b69 b1 b0 (co K0) F:=by
 unfold qG;refine ⟨rfl,?_⟩;refine ⟨?_,?_⟩
 ·refine H.h.new λb66 K F l q66 h=> ?_;replace H:=H.up l h;replace q63:=l _ _ q63;replace q69:=l _ _ q69;exact rS H q63 q66 q69
 ·refine H.h.run (λG _=>aL 0 (by decide) G) λ_ K F hr l h=> ?_;replace H:=H.up l h;replace q63:=l _ _ q63;replace q69:=l _ _ q69;obtain ⟨_,rfl,hw⟩:=hr;obtain ⟨m70,rfl,h70⟩:=hw.out;refine ⟨_,rfl,?_⟩;refine ⟨H.row,?_⟩;refine ⟨H.row,?_⟩;exact je H h70 q63 q69
theorem Bi (H:EK K0 K F b0 b1 b2 n) {b66:Nat} (q66:K b66=some (.cells #[vi 1] 3)) {b69:Nat} (q69:K b69=some (.cells #[vi 0] 3)):qH #[Sl.v n,vi aK.2] #[Sl.v n,vi aK.2] b2 b66 b69 b1 b0 (co K0) F:=by
 unfold qH;refine ⟨rfl,?_⟩;refine ⟨?_,?_⟩
 ·refine H.h.new λb63 K F l q63 h=> ?_;replace H:=H.up l h;replace q66:=l _ _ q66;replace q69:=l _ _ q69;exact rY H q63 q66 q69
 ·refine H.h.run (λG _=>aL 0 (by decide) G) λ_ K F hr l h=> ?_;replace H:=H.up l h;replace q66:=l _ _ q66;replace q69:=l _ _ q69;obtain ⟨_,rfl,hw⟩:=hr;obtain ⟨m70,rfl,h70⟩:=hw.out;refine ⟨_,rfl,?_⟩;refine ⟨H.row,?_⟩;refine ⟨H.row,?_⟩;exact jg H h70 q66 q69
theorem Bj (H:EK K0 K F b0 b1 b2 n) {m70:Sl} (h70:RL K m70 (dia (tv 0)).1) {b63:Nat} (q63:K b63=some (.cells #[vi 4] 3)) {b69:Nat} (q69:K b69=some (.cells #[vi 0] 3)):qI #[Sl.v n,vi aK.2] #[Sl.v n,vi aK.2] #[Sl.v m70,vi (dia (tv 0)).2] b2 b63 b69 b1 b0 (co K0) F:=by
 unfold qI;refine ⟨rfl,?_⟩;refine ⟨?_,?_⟩
 ·refine H.h.new λb66 K F l q66 h=> ?_;replace H:=H.up l h;replace h70:=h70.le l;replace q63:=l _ _ q63;replace q69:=l _ _ q69;exact rT H h70 q63 q66 q69
 ·refine H.h.run (λG hl=>bv (x:=0) (by decide) ((DV.mk h70).le hl)) λ_ K F hr l h=> ?_;replace H:=H.up l h;replace h70:=h70.le l;replace q63:=l _ _ q63;replace q69:=l _ _ q69;obtain ⟨_,rfl,hw⟩:=hr;obtain ⟨m71,rfl,h71⟩:=hw.out;refine ⟨_,rfl,?_⟩;refine ⟨H.row,?_⟩;refine ⟨H.row,?_⟩;exact jd H h71 q63 q69
theorem Bk (H:EK K0 K F b0 b1 b2 n) {m70:Sl} (h70:RL K m70 (dia (tv 0)).1) {b66:Nat} (q66:K b66=some (.cells #[vi 1] 3)) {b69:Nat} (q69:K b69=some (.cells #[vi 0] 3)):qJ #[Sl.v n,vi aK.2] #[Sl.v n,vi aK.2] #[Sl.v m70,vi (dia (tv 0)).2] b2 b66 b69 b1 b0 (co K0) F:=by
 unfold qJ;refine ⟨rfl,?_⟩;refine ⟨?_,?_⟩
 ·refine H.h.new λb63 K F l q63 h=> ?_;replace H:=H.up l h;replace h70:=h70.le l;replace q66:=l _ _ q66;replace q69:=l _ _ q69;exact rZ H h70 q63 q66 q69
 ·refine H.h.run (λG hl=>bv (x:=0) (by decide) ((DV.mk h70).le hl)) λ_ K F hr l h=> ?_;replace H:=H.up l h;replace h70:=h70.le l;replace q66:=l _ _ q66;replace q69:=l _ _ q69;obtain ⟨_,rfl,hw⟩:=hr;obtain ⟨m71,rfl,h71⟩:=hw.out;refine ⟨_,rfl,?_⟩;refine ⟨H.row,?_⟩;refine ⟨H.row,?_⟩;exact jf H h71 q66 q69
theorem Bl (H:EK K0 K F b0 b1 b2 n) {b63:Nat} (q63:K b63=some (.cells #[vi 4] 3)) {b69:Nat} (q69:K b69=some (.cells #[vi 0] 3)) {m71:Sl} (h71:RL K m71 (cW 0).1):qK #[Sl.v n,vi aK.2] #[Sl.v n,vi aK.2] b63 b69 #[Sl.v m71,vi (cW 0).2] b1 b0 (co K0) F:=by unfold qK;refine ⟨rfl,?_⟩;refine H.h.new λb66 K F l q66 h=> ?_;replace H:=H.up l h;replace q63:=l _ _ q63;replace q69:=l _ _ q69;replace h71:=h71.le l;exact rU H q63 q66 q69 h71
theorem Bm (H:EK K0 K F b0 b1 b2 n) {b66:Nat} (q66:K b66=some (.cells #[vi 1] 3)) {b69:Nat} (q69:K b69=some (.cells #[vi 0] 3)) {m71:Sl} (h71:RL K m71 (cW 0).1):qL #[Sl.v n,vi aK.2] #[Sl.v n,vi aK.2] b66 b69 #[Sl.v m71,vi (cW 0).2] b1 b0 (co K0) F:=by unfold qL;refine ⟨rfl,?_⟩;refine H.h.new λb63 K F l q63 h=> ?_;replace H:=H.up l h;replace q66:=l _ _ q66;replace q69:=l _ _ q69;replace h71:=h71.le l;exact r4 H q63 q66 q69 h71
theorem se (H:EK K0 K F b0 b1 b2 n) {m71:Sl} (h71:RL K m71 (cW 0).1) {b69:Nat} (q69:K b69=some (.cells #[vi 0] 3)):lH #[Sl.v m71,vi (cW 0).2] #[Sl.v n,vi aK.2] #[Sl.v n,vi aK.2] b69 b1 b0 (co K0) F:=by
 unfold lH;refine ⟨rfl,?_⟩;refine ⟨?_,?_⟩
 ·refine H.h.new λb63 K F l q63 h=> ?_;replace H:=H.up l h;replace h71:=h71.le l;replace q69:=l _ _ q69;exact Bl H q63 q69 h71
 ·refine H.h.new λb66 K F l q66 h=> ?_;replace H:=H.up l h;replace h71:=h71.le l;replace q69:=l _ _ q69;exact Bm H q66 q69 h71
theorem sg (H:EK K0 K F b0 b1 b2 n) {m70:Sl} (h70:RL K m70 (dia (tv 0)).1) {b69:Nat} (q69:K b69=some (.cells #[vi 0] 3)):lI #[Sl.v n,vi aK.2] #[Sl.v n,vi aK.2] #[Sl.v m70,vi (dia (tv 0)).2] b2 b69 b1 b0 (co K0) F:=by
 unfold lI;refine ⟨?_,?_,?_⟩
 ·refine H.h.new λb63 K F l q63 h=> ?_;replace H:=H.up l h;replace h70:=h70.le l;replace q69:=l _ _ q69;exact Bj H h70 q63 q69
 ·refine H.h.new λb66 K F l q66 h=> ?_;replace H:=H.up l h;replace h70:=h70.le l;replace q69:=l _ _ q69;exact Bk H h70 q66 q69
 ·refine H.h.run (λG hl=>bv (x:=0) (by decide) ((DV.mk h70).le hl)) λ_ K F hr l h=> ?_;replace H:=H.up l h;replace h70:=h70.le l;replace q69:=l _ _ q69;obtain ⟨_,rfl,hw⟩:=hr;obtain ⟨m71,rfl,h71⟩:=hw.out;refine ⟨_,rfl,?_⟩;refine ⟨H.row,?_⟩;refine ⟨H.row,?_⟩;exact se H h71 q69
theorem Bn (H:EK K0 K F b0 b1 b2 n) {b69:Nat} (q69:K b69=some (.cells #[vi 0] 3)):qM #[Sl.v n,vi aK.2] #[Sl.v n,vi aK.2] b2 b69 b1 b0 (co K0) F:=by
 unfold qM;refine ⟨?_,?_,?_⟩
 ·refine H.h.new λb63 K F l q63 h=> ?_;replace H:=H.up l h;replace q69:=l _ _ q69;exact Bh H q63 q69
 ·refine H.h.new λb66 K F l q66 h=> ?_;replace H:=H.up l h;replace q69:=l _ _ q69;exact Bi H q66 q69
 ·refine H.h.run (λG _=>aL 0 (by decide) G) λ_ K F hr l h=> ?_;replace H:=H.up l h;replace q69:=l _ _ q69;obtain ⟨_,rfl,hw⟩:=hr;obtain ⟨m70,rfl,h70⟩:=hw.out;refine ⟨_,rfl,?_⟩;refine ⟨H.row,?_⟩;refine ⟨H.row,?_⟩;exact sg H h70 q69
theorem Bo (H:EK K0 K F b0 b1 b2 n) {m70:Sl} (h70:RL K m70 (dia (tv 0)).1) {b63:Nat} (q63:K b63=some (.cells #[vi 4] 3)):qN #[Sl.v n,vi aK.2] #[Sl.v n,vi aK.2] #[Sl.v m70,vi (dia (tv 0)).2] b2 b63 b1 b0 (co K0) F:=by
 unfold qN;refine ⟨rfl,?_⟩;refine ⟨?_,?_,?_⟩
 ·refine H.h.new λb66 K F l q66 h=> ?_;replace H:=H.up l h;replace h70:=h70.le l;replace q63:=l _ _ q63;exact rV H h70 q63 q66
 ·refine H.h.new λb69 K F l q69 h=> ?_;replace H:=H.up l h;replace h70:=h70.le l;replace q63:=l _ _ q63;exact je H h70 q63 q69
 ·refine H.h.run (λG hl=>bv (x:=0) (by decide) ((DV.mk h70).le hl)) λ_ K F hr l h=> ?_;replace H:=H.up l h;replace h70:=h70.le l;replace q63:=l _ _ q63;obtain ⟨_,rfl,hw⟩:=hr;obtain ⟨m71,rfl,h71⟩:=hw.out;refine ⟨_,rfl,?_⟩;refine ⟨H.row,?_⟩;refine ⟨H.row,?_⟩;exact rX H h71 q63
theorem Bp (H:EK K0 K F b0 b1 b2 n) {m70:Sl} (h70:RL K m70 (dia (tv 0)).1) {b66:Nat} (q66:K b66=some (.cells #[vi 1] 3)):qO #[Sl.v n,vi aK.2] #[Sl.v n,vi aK.2] #[Sl.v m70,vi (dia (tv 0)).2] b2 b66 b1 b0 (co K0) F:=by
 unfold qO;refine ⟨rfl,?_⟩;refine ⟨?_,?_,?_⟩
 ·refine H.h.new λb63 K F l q63 h=> ?_;replace H:=H.up l h;replace h70:=h70.le l;replace q66:=l _ _ q66;exact r5 H h70 q63 q66
 ·refine H.h.new λb69 K F l q69 h=> ?_;replace H:=H.up l h;replace h70:=h70.le l;replace q66:=l _ _ q66;exact jg H h70 q66 q69
 ·refine H.h.run (λG hl=>bv (x:=0) (by decide) ((DV.mk h70).le hl)) λ_ K F hr l h=> ?_;replace H:=H.up l h;replace h70:=h70.le l;replace q66:=l _ _ q66;obtain ⟨_,rfl,hw⟩:=hr;obtain ⟨m71,rfl,h71⟩:=hw.out;refine ⟨_,rfl,?_⟩;refine ⟨H.row,?_⟩;refine ⟨H.row,?_⟩;exact sc H h71 q66
theorem Bq (H:EK K0 K F b0 b1 b2 n) {m71:Sl} (h71:RL K m71 (cW 0).1) {b63:Nat} (q63:K b63=some (.cells #[vi 4] 3)):qP #[Sl.v n,vi aK.2] #[Sl.v n,vi aK.2] #[Sl.v m71,vi (cW 0).2] b63 b1 b0 (co K0) F:=by
 unfold qP;refine ⟨rfl,?_⟩;refine ⟨?_,?_⟩
 ·refine H.h.new λb66 K F l q66 h=> ?_;replace H:=H.up l h;replace h71:=h71.le l;replace q63:=l _ _ q63;exact rW H h71 q63 q66
 ·refine H.h.new λb69 K F l q69 h=> ?_;replace H:=H.up l h;replace h71:=h71.le l;replace q63:=l _ _ q63;exact jd H h71 q63 q69
theorem Bt (H:EK K0 K F b0 b1 b2 n) {m71:Sl} (h71:RL K m71 (cW 0).1) {b66:Nat} (q66:K b66=some (.cells #[vi 1] 3)):qQ #[Sl.v n,vi aK.2] #[Sl.v n,vi aK.2] #[Sl.v m71,vi (cW 0).2] b66 b1 b0 (co K0) F:=by
 unfold qQ;refine ⟨rfl,?_⟩;refine ⟨?_,?_⟩
 ·refine H.h.new λb63 K F l q63 h=> ?_;replace H:=H.up l h;replace h71:=h71.le l;replace q66:=l _ _ q66;exact r7 H h71 q63 q66
 ·refine H.h.new λb69 K F l q69 h=> ?_;replace H:=H.up l h;replace h71:=h71.le l;replace q66:=l _ _ q66;exact jf H h71 q66 q69
theorem Bu (H:EK K0 K F b0 b1 b2 n) {m71:Sl} (h71:RL K m71 (cW 0).1):qR #[Sl.v n,vi aK.2] #[Sl.v n,vi aK.2] #[Sl.v m71,vi (cW 0).2] b1 b0 (co K0) F:=by
 unfold qR;refine ⟨?_,?_,?_⟩
 ·refine H.h.new λb63 K F l q63 h=> ?_;replace H:=H.up l h;replace h71:=h71.le l;exact Bq H h71 q63
 ·refine H.h.new λb66 K F l q66 h=> ?_;replace H:=H.up l h;replace h71:=h71.le l;exact Bt H h71 q66
 ·refine H.h.new λb69 K F l q69 h=> ?_;replace H:=H.up l h;replace h71:=h71.le l;exact se H h71 q69
theorem Bv (H:EK K0 K F b0 b1 b2 n) {m70:Sl} (h70:RL K m70 (dia (tv 0)).1):qS #[Sl.v n,vi aK.2] #[Sl.v n,vi aK.2] #[Sl.v m70,vi (dia (tv 0)).2] b2 b1 b0 (co K0) F:=by
 unfold qS;refine ⟨?_,?_,?_,?_⟩
 ·refine H.h.new λb63 K F l q63 h=> ?_;replace H:=H.up l h;replace h70:=h70.le l;exact Bo H h70 q63
 ·refine H.h.new λb66 K F l q66 h=> ?_;replace H:=H.up l h;replace h70:=h70.le l;exact Bp H h70 q66
 ·refine H.h.new λb69 K F l q69 h=> ?_;replace H:=H.up l h;replace h70:=h70.le l;exact sg H h70 q69
 ·refine H.h.run (λG hl=>bv (x:=0) (by decide) ((DV.mk h70).le hl)) λ_ K F hr l h=> ?_;replace H:=H.up l h;replace h70:=h70.le l;obtain ⟨_,rfl,hw⟩:=hr;obtain ⟨m71,rfl,h71⟩:=hw.out;refine ⟨_,rfl,?_⟩;refine ⟨H.row,?_⟩;refine ⟨H.row,?_⟩;exact Bu H h71
end
theorem lT (F:PH):aj prog 129 #[] F λr F'=>(∃w,r=.agg w/\GV F' w cw)/\F.le F':=by
 refine O3 ?_;unfold Jv;refine gr F [⟨#[69]⟩] rfl rfl λb0 b1 F1 h=> ?_;refine h.allv λb2 K1 F2 n l1 q hn h=> ?_;refine h.rule3 (dX 0) (cL 1) (dX 0) (by decide) λF2 h=> ?_;refine h.rule3 (dX 0) (cL 2) (dX 0) (by decide) λF2 h=> ?_;refine h.rule3 (cL 3) (dX 0) (cL 4) (by decide) λF2 h=> ?_;refine h.rule1 (cL 0) (by decide) λF2 h=> ?_;refine h.rule3 (dX 0) (cL 8) (dX 0) (by decide) λF2 h=> ?_;refine h.brk 2 rfl λF2 h=> ?_;refine h.cnd 4 rfl 1 (by decide) λF2 h=> ?_;refine ⟨_,rfl,ac (h.le _ _ q),_,rfl,ac (h.le _ _ q),?_⟩;have H:EK F _ _ b0 b1 b2 n:=⟨h,l1,q,hn⟩;refine ⟨?_,?_,?_,?_⟩
 ·refine H.h.new λb63 K F l q63 h=> ?_;replace H:=H.up l h;exact CF H q63
 ·refine H.h.new λb66 K F l q66 h=> ?_;replace H:=H.up l h;exact Bg H q66
 ·refine H.h.new λb69 K F l q69 h=> ?_;replace H:=H.up l h;exact Bn H q69
 ·refine H.h.run (λG _=>aL 0 (by decide) G) λ_ K F hr l h=> ?_;replace H:=H.up l h;obtain ⟨_,rfl,hw⟩:=hr;obtain ⟨m70,rfl,h70⟩:=hw.out;refine ⟨_,rfl,?_⟩;refine ⟨H.row,?_⟩;refine ⟨H.row,?_⟩;exact Bv H h70
noncomputable def bY (k:Nat):Gr:=if k=0 then cw else if k=1 then bW else if k=2 then cU else if k=3 then jh else if k=4 then gu else gx
theorem xk (k:Nat) (F:PH):aj prog 80 #[.int .u8 (k:Int)] F λr F'=>(∃w,r=.agg w/\GV F' w (bY (k % 6)))/\F.le F':=by
 refine Rq ?_;unfold OX;refine (St.start F).new λb F1 h=> ?_;have e:Int.tmod (k:Int) 6=((k % 6:Nat):Int):=by rw [Tw (by omega)];omega
 rw [e];have hk:k % 6<6:=TC _ (by decide);generalize k % 6=j at*;have fin:∀{v:Value} {G F1:PH},F.le G->(∃w,v=Value.agg w/\GV G w (bY j))->St G F1 [pt b (.cells zG 37)]->∃w:Γ,v=Value.agg w/\au F1 (Addr.mk b 0 none) 9 w λF2=>∃w:Γ,w.size=9/\F2.row (Addr.mk b 0 none) w/\((∃w',Value.agg w=Value.agg w'/\GV F2 w' (bY j))/\F.le F2):=λ{v G F1} hl hv h=>by obtain ⟨w,rfl,hv⟩:=hv;exact ⟨w,rfl,h.put0 (w':=w) hv.size rfl hv.st λF2 h=>⟨w,hv.size,h.whole0,⟨w,rfl,hv.le h.le⟩,aa hl h.le⟩⟩
 refine ⟨λh0=> ?_,λh0=>⟨λh1=> ?_,λh1=>⟨λh2=> ?_,λh2=>⟨λh3=> ?_,λh3=>⟨λh4=> ?_,λh4=> ?_⟩⟩⟩⟩⟩
 ·obtain rfl:j=0:=by omega
  exact h.run (lT _) λ_ G F2 hr l h=>fin l hr h
 ·obtain rfl:j=1:=by omega
  exact h.run (nJ _) λ_ G F2 hr l h=>fin l hr h
 ·obtain rfl:j=2:=by omega
  exact h.run (ku _) λ_ G F2 hr l h=>fin l hr h
 ·obtain rfl:j=3:=by omega
  exact h.run (vC _) λ_ G F2 hr l h=>fin l hr h
 ·obtain rfl:j=4:=by omega
  exact h.run (tI _) λ_ G F2 hr l h=>fin l hr h
 ·obtain rfl:j=5:=by omega
  exact h.run (tK _) λ_ G F2 hr l h=>fin l hr h
end Go.Proofs.YtcemhghkipgdiaaGreatDoor
