/-
  Known grammars with levels and filters; all of them. Printed by a program (mkIf.py).
-/
import Derived.Test.YtcemhghkipgdiaaGreatDoorIe
namespace Go.Proofs.YtcemhghkipgdiaaGreatDoor
open Go Go.Proofs.Tryz Tr
set_option maxRecDepth 10000
theorem eQ {F:PH} {b:Nat} {e:TypeId} {x:Int} (q:F b=some (.cells #[vi x] e)):RL F (Sl.mk (some (Addr.mk b 0 none)) 1 1) [x]:=RL.ints.2 (RdS.new q rfl rfl (TT _))
theorem oF {F:PH} {x:Fi} {t n:Sl} (ht:RL F t x.toks) (hn:RL F n x.cond.1):Mem.rep F x (x.arr t n):=⟨t,n,rfl,ht,hn⟩
theorem fw {F:PH} {x:Lv} {p n:Sl} (hp:RL F p x.ps) (hn:RL F n x.cond.1):Mem.rep F x (x.arr p n):=⟨p,n,rfl,hp,hn⟩
theorem ug (F:PH):aj prog 133 #[] F λr F'=>(∃w,r=.agg w/\GV F' w gB)/\F.le F':=by refine Qj ?_;unfold Kx;refine gA F [⟨#[83]⟩,⟨#[87]⟩,⟨#[86]⟩] rfl rfl λb0 b1 F1 h=> ?_;refine h.rule2 (d7 1) (d7 2) (by decide) λF2 h=> ?_;refine h.rule1 (cO 0) (by decide) λF2 h=> ?_;refine h.rule2 (cO 0) (cO 0) (by decide) λF2 h=> ?_;refine h.rule0 (by decide) λF2 h=> ?_;refine h.rule2 (cO 0) (d7 2) (by decide) λF2 h=> ?_;refine h.rule2 (cO 1) (d7 2) (by decide) λF2 h=> ?_;refine h.rank 1 rfl λF2 h=> ?_;refine h.cnd 5 rfl 1 (by decide) λF2 h=> ?_;refine h.new λb64 K3 F3 l3 q64 h=> ?_;refine h.run (λG _=>aN 0 (by decide) G) λ_ K4 F4 hr l4 h=> ?_;obtain ⟨_,rfl,hw⟩:=hr;obtain ⟨m,rfl,hm⟩:=hw.out;refine ⟨_,rfl,rfl,?_⟩;refine h.new λb67 K5 F5 l5 q67 h=> ?_;refine h.run (λG _=>aN 1 (by decide) G) λ_ K6 F6 hr l6 h=> ?_;obtain ⟨_,rfl,hv⟩:=hr;refine ⟨_,rfl,?_⟩;refine h.run (λG hl=>bv (by decide) (hv.le hl)) λ_ K7 F7 hr l7 h=> ?_;obtain ⟨_,rfl,hw⟩:=hr;obtain ⟨m',rfl,hm'⟩:=hw.out;refine ⟨_,rfl,rfl,rfl,rfl,?_⟩;refine h.new λb71 K8 F8 l8 q71 h=> ?_;have l58:=aa l6 (aa l7 l8);have l48:=aa l5 l58;refine h.fils (x:=[⟨3,0,0,0,1,0,[0],dia (tv 0)⟩,⟨4,0,0,0,2,0,[1],cZ 1⟩]) ⟨[_,_],.cons (oF (eQ (l48 _ _ (l4 _ _ q64))) (hm.le l48)) (.cons (oF (eQ (l58 _ _ q67)) (hm'.le l8)) .nil),RdS.new q71 (by kernel_rfl) rfl (TT _)⟩ λF9 h=> ?_;exact h.fin (R:=λr F'=>(∃w,r=.agg w/\GV F' w gB)/\F.le F') λw F' hv hl=>⟨⟨w,rfl,hv⟩,aa l3 (aa l4 (aa l48 hl))⟩
noncomputable def ui:Gr:={(cC [⟨#[83]⟩,⟨#[67]⟩]) with prods:=bZ.prods}
theorem An {K F F0:PH} {b0 b1 b61 b64:Nat} {g:Gr} {c n t s sp l m v:Sl} {vs:List Γ} (hF:F0.le K) (hg:{g with fils:=[⟨2,0,2,1,0,0,[],dia (tv 0)⟩,⟨5,0,0,0,0,0,[5,6],dia (tv 1)⟩]}=bZ)
  (st:St K F [pt b64 (.cells (wr (wr (#[.int .i64 0,.int .i64 0,.int .i64 0,.int .i64 0,.int .i64 0,.int .i64 0,.slice none 0 0,.slice none 0 0,.int .i64 0,.int .i64 0,.int .i64 0,.int .i64 0,.int .i64 0,.int .i64 0,.int .i64 0,.slice none 0 0,.slice none 0 0,.int .i64 0]:Γ) 0 (wr (Array.setIfInBounds (Array.setIfInBounds (Array.setIfInBounds (#[.int .i64 0,.int .i64 0,.int .i64 0,.int .i64 0,.int .i64 0,.int .i64 0,.slice none 0 0,.slice none 0 0,.int .i64 0]:Γ) 0 (vi 2)) 2 (vi 2)) 3 (vi 1)) 7 (#[m.v,vi (dia (tv 0)).2]:Γ).toList).toList) 9 (wr (Array.setIfInBounds (Array.setIfInBounds (#[.int .i64 0,.int .i64 0,.int .i64 0,.int .i64 0,.int .i64 0,.int .i64 0,.slice none 0 0,.slice none 0 0,.int .i64 0]:Γ) 0 (vi 5)) 6 (Sl.v (Sl.mk (some (Addr.mk b61 0 none)) 2 2))) 7 (#[v.v,vi aM.2]:Γ).toList).toList) 156),pt b1 (.cells (g.arr c n t s sp l (Sl.mk (some (Addr.mk b64 0 none)) 2 2)) 37),own sp 55 13 (cat vs),pt b0 (.cells zG 37)])
  (hr:de K g.prods vs) (hc:RL K c g.conds) (hn:RL K n g.fam.1) (ht:RL K t g.toks) (hs:RL K s g.nons) (hl:RL K l g.lvs) (hm:RL K m (dia (tv 0)).1) (q61:RL K (Sl.mk (some (Addr.mk b61 0 none)) 2 2) [(5:Int),6]):
  pm b0 b1 (λr F'=>(∃w,r=.agg w/\GV F' w bZ)/\F0.le F') F:=by
 unfold pm;refine ⟨_,st.ld1 rfl,?_⟩;refine st.run (aN 1 (by decide) _) λ_ K1 F1 hr1 l1 st=> ?_;obtain ⟨_,rfl,hw⟩:=hr1;obtain ⟨m1,rfl,hm1⟩:=hw.out;refine ⟨_,rfl,st.ld1 rfl,_,rfl,by decide,(by show (1:Int)<2;decide),?_⟩;simp only [aC];refine st.putR0 (o:=16) (w':= #[vi 2,vi 0,vi 2,vi 1,vi 0,vi 0,Sl.v Sl.nil,m.v,vi (dia (tv 0)).2,vi 5,vi 0,vi 0,vi 0,vi 0,vi 0,Sl.v (Sl.mk (some (Addr.mk b61 0 none)) 2 2),m1.v,vi (dia (tv 1)).2]) rfl (by simp [al,Sl.v]) (by rw [dK,dK];show 16+2<=18;decide) (by kernel_rfl) λF2 st=> ?_;obtain ⟨K2,l2,⟨H,hA,hH⟩,st⟩:=st.pin;have q:=hH _ _ hA;have l12:=aa l1 l2;have hf:RL K2 (Sl.mk (some (Addr.mk b64 0 none)) 2 2) [(⟨2,0,2,1,0,0,[],dia (tv 0)⟩:Fi),⟨5,0,0,0,0,0,[5,6],dia (tv 1)⟩]:=
  ⟨[_,_],.cons (oF (t:=Sl.nil) (.nil _) (hm.le l12)) (.cons (oF (q61.le l12) (hm1.le l2)) .nil),RdS.new q (by kernel_rfl) rfl (TT _)⟩
 have h:KS K2 F2 b0 b1 bZ:=by rw [<- hg];exact ⟨K2,c,n,t,s,sp,l,_,vs,aq _,st,hr.le l12,hc.le l12,hn.le l12,ht.le l12,hs.le l12,hl.le l12,hf⟩
 exact h.fin (R:=λr F'=>(∃w,r=.agg w/\GV F' w bZ)/\F0.le F') λw F' hv hl=>⟨⟨w,rfl,hv⟩,aa hF (aa l12 hl)⟩
theorem ot (F:PH):aj prog 130 #[] F λr F'=>(∃w,r=.agg w/\GV F' w bZ)/\F.le F':=by
 refine Qg ?_;unfold Ku;refine gA F [⟨#[83]⟩,⟨#[67]⟩] rfl rfl λb0 b1 F1 h=> ?_;refine h.allv λb2 K1 F2 n l1 q hn h=> ?_;refine h.rule5 (cO 5) (d7 1) (d7 0) (cO 6) (d7 0) (by decide) λF2 h=> ?_;refine h.rule3 (cO 5) (d7 1) (d7 0) (by decide) λF2 h=> ?_;refine h.rule2 (d7 1) (cO 7) (by decide) λF2 h=> ?_;refine h.rule3 (cO 3) (d7 0) (cO 4) (by decide) λF2 h=> ?_;refine h.rule1 (cO 0) (by decide) λF2 h=> ?_;refine h.brk 3 rfl λF2 h=> ?_;refine ⟨_,rfl,ac (h.le _ _ q),?_⟩;obtain ⟨G,c,n',t,s,sp,l,f,vs,h⟩:=h;have hn:=hn.le h.k;have l1:=aa l1 h.k;refine ⟨?_,?_⟩
 ·refine h.st.run (aN 0 (by decide) _) λ_ K4 F4 hr l4 st=> ?_;obtain ⟨_,rfl,hw⟩:=hr;obtain ⟨m,rfl,hm⟩:=hw.out;refine ⟨_,rfl,ac (st.le _ _ (l4 _ _ (h.k _ _ q))),rfl,?_⟩;refine st.newG λb61 K5 F5 l5 q61 _ st=> ?_;refine ⟨rfl,rfl,rfl,?_⟩;refine st.new λb64 F6 st=> ?_;refine st.set1 (w':=(ui.arr c n' t s sp l (Sl.mk (some (Addr.mk b64 0 none)) 2 2))) (by show 8<9;decide) rfl λF7 st=> ?_;have l45:=aa l4 l5;exact An (g:=ui) (aa l1 l45) rfl st (h.r.le l45) (h.c.le l45) (h.n.le l45) (h.t.le l45) (h.s.le l45) (h.l.le l45) (hm.le l5) (RL.ints.2 (RdS.new q61 rfl rfl (TT _)))
 ·refine h.st.newG λb61 K5 F5 l5 q61 _ st=> ?_;refine ⟨rfl,?_⟩;refine st.run (aN 0 (by decide) _) λ_ K4 F4 hr l4 st=> ?_;obtain ⟨_,rfl,hw⟩:=hr;obtain ⟨m,rfl,hm⟩:=hw.out;refine ⟨_,rfl,ac (st.le _ _ (l4 _ _ (l5 _ _ (h.k _ _ q)))),rfl,rfl,rfl,?_⟩;refine st.new λb64 F6 st=> ?_;refine st.set1 (w':=(ui.arr c n' t s sp l (Sl.mk (some (Addr.mk b64 0 none)) 2 2))) (by show 8<9;decide) rfl λF7 st=> ?_;have l45:=aa l5 l4;exact An (g:=ui) (aa l1 l45) rfl st (h.r.le l45) (h.c.le l45) (h.n.le l45) (h.t.le l45) (h.s.le l45) (h.l.le l45) hm ((RL.ints.2 (RdS.new q61 rfl rfl (TT _))).le l4)
noncomputable def IS:Gr:={cv with lvs:=[]}
structure EK (K0 K F:PH) (b0 b1 b2:Nat) (n:Sl):Prop where
 h:KS K F b0 b1 IS
 l:K0.le K
 q:K b2=some (.cells #[Sl.v n,vi aM.2] 31)
 n:RL K n aM.1
theorem EK.up {K0 K F K' F':PH} {b0 b1 b2:Nat} {n:Sl} (H:EK K0 K F b0 b1 b2 n) (l:K.le K') (h:KS K' F' b0 b1 IS):EK K0 K' F' b0 b1 b2 n:=⟨h,aa H.l l,l _ _ H.q,H.n.le l⟩
theorem EK.row {K0 K F:PH} {b0 b1 b2:Nat} {n:Sl} (H:EK K0 K F b0 b1 b2 n):F.row (Addr.mk b2 0 none) #[Sl.v n,vi aM.2]:=ac (H.h.le _ _ H.q)
section
variable {K0 K F:PH} {b0 b1 b2:Nat} {n:Sl}
abbrev co (K0:PH):VR:=λr F'=>(∃w,r=.agg w/\GV F' w cv)/\K0.le F'
theorem KU (H:EK K0 K F b0 b1 b2 n) {b73:Nat} (hr:RL K (Sl.mk (some (Addr.mk b73 0 none)) 3 3) cv.lvs):lM b1 b73 b0 (co K0) F:=by unfold lM;refine H.h.lvs hr λF9 h=> ?_;unfold By;exact h.fin (R:=co K0) λw F' hv hl=>⟨⟨w,rfl,hv⟩,aa H.l hl⟩
theorem gy (H:EK K0 K F b0 b1 b2 n) {m71:Sl} (h71:RL K m71 (cZ 0).1) {b63:Nat} (q63:K b63=some (.cells #[vi 4] 3)) {b66:Nat} (q66:K b66=some (.cells #[vi 1] 3)) {b69:Nat} (q69:K b69=some (.cells #[vi 0] 3)):gf #[Sl.v m71,vi (cZ 0).2] b63 #[Sl.v n,vi aM.2] b66 #[Sl.v n,vi aM.2] b69 b1 b0 (co K0) F:=by unfold gf;refine ⟨rfl,?_⟩;refine ⟨rfl,?_⟩;refine ⟨rfl,?_⟩;refine ⟨rfl,?_⟩;refine H.h.new λb73 K F l q73 h=> ?_;replace H:=H.up l h;replace h71:=h71.le l;replace q63:=l _ _ q63;replace q66:=l _ _ q66;replace q69:=l _ _ q69;exact KU H ⟨[_,_,_],.cons (fw (eQ q63) H.n) (.cons (fw (eQ q66) H.n) (.cons (fw (eQ q69) h71) .nil)),RdS.new q73 (by kernel_rfl) rfl (TT _)⟩
theorem gz (H:EK K0 K F b0 b1 b2 n) {m70:Sl} (h70:RL K m70 (dia (tv 0)).1) {b63:Nat} (q63:K b63=some (.cells #[vi 4] 3)) {b66:Nat} (q66:K b66=some (.cells #[vi 1] 3)) {b69:Nat} (q69:K b69=some (.cells #[vi 0] 3)):gg #[Sl.v m70,vi (dia (tv 0)).2] b2 #[Sl.v n,vi aM.2] #[Sl.v n,vi aM.2] b63 b66 b69 b1 b0 (co K0) F:=by unfold gg;refine H.h.run (λG hl=>bv (x:=0) (by decide) ((DV.mk h70).le hl)) λ_ K F hr l h=> ?_;replace H:=H.up l h;replace h70:=h70.le l;replace q63:=l _ _ q63;replace q66:=l _ _ q66;replace q69:=l _ _ q69;obtain ⟨_,rfl,hw⟩:=hr;obtain ⟨m71,rfl,h71⟩:=hw.out;refine ⟨_,rfl,?_⟩;refine ⟨H.row,?_⟩;refine ⟨H.row,?_⟩;exact gy H h71 q63 q66 q69
theorem wo (H:EK K0 K F b0 b1 b2 n) {b63:Nat} (q63:K b63=some (.cells #[vi 4] 3)) {b66:Nat} (q66:K b66=some (.cells #[vi 1] 3)) {b69:Nat} (q69:K b69=some (.cells #[vi 0] 3)):pj b2 #[Sl.v n,vi aM.2] #[Sl.v n,vi aM.2] b63 b66 b69 b1 b0 (co K0) F:=by unfold pj;refine H.h.run (λG _=>aN 0 (by decide) G) λ_ K F hr l h=> ?_;replace H:=H.up l h;replace q63:=l _ _ q63;replace q66:=l _ _ q66;replace q69:=l _ _ q69;obtain ⟨_,rfl,hw⟩:=hr;obtain ⟨m70,rfl,h70⟩:=hw.out;refine ⟨_,rfl,?_⟩;refine ⟨H.row,?_⟩;refine ⟨H.row,?_⟩;exact gz H h70 q63 q66 q69
theorem pQ (H:EK K0 K F b0 b1 b2 n) {m71:Sl} (h71:RL K m71 (cZ 0).1) {b63:Nat} (q63:K b63=some (.cells #[vi 4] 3)) {b66:Nat} (q66:K b66=some (.cells #[vi 1] 3)):lO #[Sl.v m71,vi (cZ 0).2] b63 #[Sl.v n,vi aM.2] b66 #[Sl.v n,vi aM.2] b1 b0 (co K0) F:=by unfold lO;refine H.h.new λb69 K F l q69 h=> ?_;replace H:=H.up l h;replace h71:=h71.le l;replace q63:=l _ _ q63;replace q66:=l _ _ q66;exact gy H h71 q63 q66 q69
theorem wq (H:EK K0 K F b0 b1 b2 n) {m70:Sl} (h70:RL K m70 (dia (tv 0)).1) {b63:Nat} (q63:K b63=some (.cells #[vi 4] 3)) {b66:Nat} (q66:K b66=some (.cells #[vi 1] 3)):pk #[Sl.v m70,vi (dia (tv 0)).2] b2 #[Sl.v n,vi aM.2] #[Sl.v n,vi aM.2] b63 b66 b1 b0 (co K0) F:=by
 unfold pk;refine ⟨?_,?_⟩
 ·refine H.h.new λb69 K F l q69 h=> ?_;replace H:=H.up l h;replace h70:=h70.le l;replace q63:=l _ _ q63;replace q66:=l _ _ q66;exact gz H h70 q63 q66 q69
 ·refine H.h.run (λG hl=>bv (x:=0) (by decide) ((DV.mk h70).le hl)) λ_ K F hr l h=> ?_;replace H:=H.up l h;replace h70:=h70.le l;replace q63:=l _ _ q63;replace q66:=l _ _ q66;obtain ⟨_,rfl,hw⟩:=hr;obtain ⟨m71,rfl,h71⟩:=hw.out;refine ⟨_,rfl,?_⟩;refine ⟨H.row,?_⟩;refine ⟨H.row,?_⟩;exact pQ H h71 q63 q66
theorem Dk (H:EK K0 K F b0 b1 b2 n) {b63:Nat} (q63:K b63=some (.cells #[vi 4] 3)) {b66:Nat} (q66:K b66=some (.cells #[vi 1] 3)):vm #[Sl.v n,vi aM.2] b2 #[Sl.v n,vi aM.2] b63 b66 b1 b0 (co K0) F:=by
 unfold vm;refine ⟨rfl,?_⟩;refine ⟨?_,?_⟩
 ·refine H.h.new λb69 K F l q69 h=> ?_;replace H:=H.up l h;replace q63:=l _ _ q63;replace q66:=l _ _ q66;exact wo H q63 q66 q69
 ·refine H.h.run (λG _=>aN 0 (by decide) G) λ_ K F hr l h=> ?_;replace H:=H.up l h;replace q63:=l _ _ q63;replace q66:=l _ _ q66;obtain ⟨_,rfl,hw⟩:=hr;obtain ⟨m70,rfl,h70⟩:=hw.out;refine ⟨_,rfl,?_⟩;refine ⟨H.row,?_⟩;refine ⟨H.row,?_⟩;exact wq H h70 q63 q66
theorem sF (H:EK K0 K F b0 b1 b2 n) {b63:Nat} (q63:K b63=some (.cells #[vi 4] 3)) {b66:Nat} (q66:K b66=some (.cells #[vi 1] 3)) {b69:Nat} (q69:K b69=some (.cells #[vi 0] 3)):lP #[Sl.v n,vi aM.2] b2 #[Sl.v n,vi aM.2] b63 b66 b69 b1 b0 (co K0) F:=by unfold lP;refine ⟨rfl,?_⟩;refine H.h.run (λG _=>aN 0 (by decide) G) λ_ K F hr l h=> ?_;replace H:=H.up l h;replace q63:=l _ _ q63;replace q66:=l _ _ q66;replace q69:=l _ _ q69;obtain ⟨_,rfl,hw⟩:=hr;obtain ⟨m70,rfl,h70⟩:=hw.out;refine ⟨_,rfl,?_⟩;refine ⟨H.row,?_⟩;refine ⟨H.row,?_⟩;exact gz H h70 q63 q66 q69
theorem sG (H:EK K0 K F b0 b1 b2 n) {m70:Sl} (h70:RL K m70 (dia (tv 0)).1) {b63:Nat} (q63:K b63=some (.cells #[vi 4] 3)) {b66:Nat} (q66:K b66=some (.cells #[vi 1] 3)) {b69:Nat} (q69:K b69=some (.cells #[vi 0] 3)):lQ #[Sl.v n,vi aM.2] #[Sl.v m70,vi (dia (tv 0)).2] b2 #[Sl.v n,vi aM.2] b63 b66 b69 b1 b0 (co K0) F:=by unfold lQ;refine ⟨rfl,?_⟩;refine H.h.run (λG hl=>bv (x:=0) (by decide) ((DV.mk h70).le hl)) λ_ K F hr l h=> ?_;replace H:=H.up l h;replace h70:=h70.le l;replace q63:=l _ _ q63;replace q66:=l _ _ q66;replace q69:=l _ _ q69;obtain ⟨_,rfl,hw⟩:=hr;obtain ⟨m71,rfl,h71⟩:=hw.out;refine ⟨_,rfl,?_⟩;refine ⟨H.row,?_⟩;refine ⟨H.row,?_⟩;exact gy H h71 q63 q66 q69
theorem sH (H:EK K0 K F b0 b1 b2 n) {b63:Nat} (q63:K b63=some (.cells #[vi 4] 3)) {b66:Nat} (q66:K b66=some (.cells #[vi 1] 3)) {b69:Nat} (q69:K b69=some (.cells #[vi 0] 3)) {m71:Sl} (h71:RL K m71 (cZ 0).1):lR #[Sl.v n,vi aM.2] b63 #[Sl.v n,vi aM.2] b66 b69 #[Sl.v m71,vi (cZ 0).2] b1 b0 (co K0) F:=by unfold lR;refine ⟨rfl,?_⟩;refine ⟨rfl,?_⟩;refine ⟨rfl,?_⟩;refine ⟨rfl,?_⟩;refine H.h.new λb73 K F l q73 h=> ?_;replace H:=H.up l h;replace q63:=l _ _ q63;replace q66:=l _ _ q66;replace q69:=l _ _ q69;replace h71:=h71.le l;exact KU H ⟨[_,_,_],.cons (fw (eQ q63) H.n) (.cons (fw (eQ q66) H.n) (.cons (fw (eQ q69) h71) .nil)),RdS.new q73 (by kernel_rfl) rfl (TT _)⟩
theorem jl (H:EK K0 K F b0 b1 b2 n) {m71:Sl} (h71:RL K m71 (cZ 0).1) {b63:Nat} (q63:K b63=some (.cells #[vi 4] 3)) {b69:Nat} (q69:K b69=some (.cells #[vi 0] 3)):gN #[Sl.v m71,vi (cZ 0).2] #[Sl.v n,vi aM.2] b63 #[Sl.v n,vi aM.2] b69 b1 b0 (co K0) F:=by unfold gN;refine ⟨rfl,?_⟩;refine H.h.new λb66 K F l q66 h=> ?_;replace H:=H.up l h;replace h71:=h71.le l;replace q63:=l _ _ q63;replace q69:=l _ _ q69;exact sH H q63 q66 q69 h71
theorem jm (H:EK K0 K F b0 b1 b2 n) {m70:Sl} (h70:RL K m70 (dia (tv 0)).1) {b63:Nat} (q63:K b63=some (.cells #[vi 4] 3)) {b69:Nat} (q69:K b69=some (.cells #[vi 0] 3)):gO #[Sl.v n,vi aM.2] #[Sl.v m70,vi (dia (tv 0)).2] b2 #[Sl.v n,vi aM.2] b63 b69 b1 b0 (co K0) F:=by
 unfold gO;refine ⟨?_,?_⟩
 ·refine H.h.new λb66 K F l q66 h=> ?_;replace H:=H.up l h;replace h70:=h70.le l;replace q63:=l _ _ q63;replace q69:=l _ _ q69;exact sG H h70 q63 q66 q69
 ·refine H.h.run (λG hl=>bv (x:=0) (by decide) ((DV.mk h70).le hl)) λ_ K F hr l h=> ?_;replace H:=H.up l h;replace h70:=h70.le l;replace q63:=l _ _ q63;replace q69:=l _ _ q69;obtain ⟨_,rfl,hw⟩:=hr;obtain ⟨m71,rfl,h71⟩:=hw.out;refine ⟨_,rfl,?_⟩;refine ⟨H.row,?_⟩;refine ⟨H.row,?_⟩;exact jl H h71 q63 q69
theorem BV (H:EK K0 K F b0 b1 b2 n) {b63:Nat} (q63:K b63=some (.cells #[vi 4] 3)) {b69:Nat} (q69:K b69=some (.cells #[vi 0] 3)):qV #[Sl.v n,vi aM.2] b2 #[Sl.v n,vi aM.2] b63 b69 b1 b0 (co K0) F:=by
 unfold qV;refine ⟨?_,?_⟩
 ·refine H.h.new λb66 K F l q66 h=> ?_;replace H:=H.up l h;replace q63:=l _ _ q63;replace q69:=l _ _ q69;exact sF H q63 q66 q69
 ·refine H.h.run (λG _=>aN 0 (by decide) G) λ_ K F hr l h=> ?_;replace H:=H.up l h;replace q63:=l _ _ q63;replace q69:=l _ _ q69;obtain ⟨_,rfl,hw⟩:=hr;obtain ⟨m70,rfl,h70⟩:=hw.out;refine ⟨_,rfl,?_⟩;refine ⟨H.row,?_⟩;refine ⟨H.row,?_⟩;exact jm H h70 q63 q69
theorem sI (H:EK K0 K F b0 b1 b2 n) {m70:Sl} (h70:RL K m70 (dia (tv 0)).1) {b63:Nat} (q63:K b63=some (.cells #[vi 4] 3)) {b66:Nat} (q66:K b66=some (.cells #[vi 1] 3)):lS #[Sl.v n,vi aM.2] #[Sl.v m70,vi (dia (tv 0)).2] b2 #[Sl.v n,vi aM.2] b63 b66 b1 b0 (co K0) F:=by
 unfold lS;refine ⟨rfl,?_⟩;refine ⟨?_,?_⟩
 ·refine H.h.new λb69 K F l q69 h=> ?_;replace H:=H.up l h;replace h70:=h70.le l;replace q63:=l _ _ q63;replace q66:=l _ _ q66;exact gz H h70 q63 q66 q69
 ·refine H.h.run (λG hl=>bv (x:=0) (by decide) ((DV.mk h70).le hl)) λ_ K F hr l h=> ?_;replace H:=H.up l h;replace h70:=h70.le l;replace q63:=l _ _ q63;replace q66:=l _ _ q66;obtain ⟨_,rfl,hw⟩:=hr;obtain ⟨m71,rfl,h71⟩:=hw.out;refine ⟨_,rfl,?_⟩;refine ⟨H.row,?_⟩;refine ⟨H.row,?_⟩;exact pQ H h71 q63 q66
theorem sJ (H:EK K0 K F b0 b1 b2 n) {m71:Sl} (h71:RL K m71 (cZ 0).1) {b63:Nat} (q63:K b63=some (.cells #[vi 4] 3)) {b66:Nat} (q66:K b66=some (.cells #[vi 1] 3)):lT #[Sl.v n,vi aM.2] #[Sl.v m71,vi (cZ 0).2] b63 #[Sl.v n,vi aM.2] b66 b1 b0 (co K0) F:=by unfold lT;refine ⟨rfl,?_⟩;refine H.h.new λb69 K F l q69 h=> ?_;replace H:=H.up l h;replace h71:=h71.le l;replace q63:=l _ _ q63;replace q66:=l _ _ q66;exact gy H h71 q63 q66 q69
theorem sK (H:EK K0 K F b0 b1 b2 n) {m71:Sl} (h71:RL K m71 (cZ 0).1) {b63:Nat} (q63:K b63=some (.cells #[vi 4] 3)):lU #[Sl.v n,vi aM.2] #[Sl.v m71,vi (cZ 0).2] b63 #[Sl.v n,vi aM.2] b1 b0 (co K0) F:=by
 unfold lU;refine ⟨?_,?_⟩
 ·refine H.h.new λb66 K F l q66 h=> ?_;replace H:=H.up l h;replace h71:=h71.le l;replace q63:=l _ _ q63;exact sJ H h71 q63 q66
 ·refine H.h.new λb69 K F l q69 h=> ?_;replace H:=H.up l h;replace h71:=h71.le l;replace q63:=l _ _ q63;exact jl H h71 q63 q69
theorem BW (H:EK K0 K F b0 b1 b2 n) {m70:Sl} (h70:RL K m70 (dia (tv 0)).1) {b63:Nat} (q63:K b63=some (.cells #[vi 4] 3)):qW #[Sl.v n,vi aM.2] #[Sl.v m70,vi (dia (tv 0)).2] b2 #[Sl.v n,vi aM.2] b63 b1 b0 (co K0) F:=by
 unfold qW;refine ⟨?_,?_,?_⟩
 ·refine H.h.new λb66 K F l q66 h=> ?_;replace H:=H.up l h;replace h70:=h70.le l;replace q63:=l _ _ q63;exact sI H h70 q63 q66
 ·refine H.h.new λb69 K F l q69 h=> ?_;replace H:=H.up l h;replace h70:=h70.le l;replace q63:=l _ _ q63;exact jm H h70 q63 q69
 ·refine H.h.run (λG hl=>bv (x:=0) (by decide) ((DV.mk h70).le hl)) λ_ K F hr l h=> ?_;replace H:=H.up l h;replace h70:=h70.le l;replace q63:=l _ _ q63;obtain ⟨_,rfl,hw⟩:=hr;obtain ⟨m71,rfl,h71⟩:=hw.out;refine ⟨_,rfl,?_⟩;refine ⟨H.row,?_⟩;refine ⟨H.row,?_⟩;exact sK H h71 q63
theorem Dl (H:EK K0 K F b0 b1 b2 n) {b63:Nat} (q63:K b63=some (.cells #[vi 4] 3)):vn #[Sl.v n,vi aM.2] #[Sl.v n,vi aM.2] b2 b63 b1 b0 (co K0) F:=by
 unfold vn;refine ⟨rfl,?_⟩;refine ⟨?_,?_,?_⟩
 ·refine H.h.new λb66 K F l q66 h=> ?_;replace H:=H.up l h;replace q63:=l _ _ q63;exact Dk H q63 q66
 ·refine H.h.new λb69 K F l q69 h=> ?_;replace H:=H.up l h;replace q63:=l _ _ q63;exact BV H q63 q69
 ·refine H.h.run (λG _=>aN 0 (by decide) G) λ_ K F hr l h=> ?_;replace H:=H.up l h;replace q63:=l _ _ q63;obtain ⟨_,rfl,hw⟩:=hr;obtain ⟨m70,rfl,h70⟩:=hw.out;refine ⟨_,rfl,?_⟩;refine ⟨H.row,?_⟩;refine ⟨H.row,?_⟩;exact BW H h70 q63
theorem BX (H:EK K0 K F b0 b1 b2 n) {b63:Nat} (q63:K b63=some (.cells #[vi 4] 3)) {b66:Nat} (q66:K b66=some (.cells #[vi 1] 3)):qX #[Sl.v n,vi aM.2] b2 #[Sl.v n,vi aM.2] b63 b66 b1 b0 (co K0) F:=by
 unfold qX;refine ⟨rfl,?_⟩;refine ⟨?_,?_⟩
 ·refine H.h.new λb69 K F l q69 h=> ?_;replace H:=H.up l h;replace q63:=l _ _ q63;replace q66:=l _ _ q66;exact wo H q63 q66 q69
 ·refine H.h.run (λG _=>aN 0 (by decide) G) λ_ K F hr l h=> ?_;replace H:=H.up l h;replace q63:=l _ _ q63;replace q66:=l _ _ q66;obtain ⟨_,rfl,hw⟩:=hr;obtain ⟨m70,rfl,h70⟩:=hw.out;refine ⟨_,rfl,?_⟩;refine ⟨H.row,?_⟩;refine ⟨H.row,?_⟩;exact wq H h70 q63 q66
theorem sL (H:EK K0 K F b0 b1 b2 n) {b63:Nat} (q63:K b63=some (.cells #[vi 4] 3)) {b66:Nat} (q66:K b66=some (.cells #[vi 1] 3)) {b69:Nat} (q69:K b69=some (.cells #[vi 0] 3)):lV #[Sl.v n,vi aM.2] b2 #[Sl.v n,vi aM.2] b63 b66 b69 b1 b0 (co K0) F:=by unfold lV;refine ⟨rfl,?_⟩;refine H.h.run (λG _=>aN 0 (by decide) G) λ_ K F hr l h=> ?_;replace H:=H.up l h;replace q63:=l _ _ q63;replace q66:=l _ _ q66;replace q69:=l _ _ q69;obtain ⟨_,rfl,hw⟩:=hr;obtain ⟨m70,rfl,h70⟩:=hw.out;refine ⟨_,rfl,?_⟩;refine ⟨H.row,?_⟩;refine ⟨H.row,?_⟩;exact gz H h70 q63 q66 q69
theorem sM (H:EK K0 K F b0 b1 b2 n) {m70:Sl} (h70:RL K m70 (dia (tv 0)).1) {b63:Nat} (q63:K b63=some (.cells #[vi 4] 3)) {b66:Nat} (q66:K b66=some (.cells #[vi 1] 3)) {b69:Nat} (q69:K b69=some (.cells #[vi 0] 3)):lW #[Sl.v n,vi aM.2] #[Sl.v m70,vi (dia (tv 0)).2] b2 #[Sl.v n,vi aM.2] b63 b66 b69 b1 b0 (co K0) F:=by unfold lW;refine ⟨rfl,?_⟩;refine H.h.run (λG hl=>bv (x:=0) (by decide) ((DV.mk h70).le hl)) λ_ K F hr l h=> ?_;replace H:=H.up l h;replace h70:=h70.le l;replace q63:=l _ _ q63;replace q66:=l _ _ q66;replace q69:=l _ _ q69;obtain ⟨_,rfl,hw⟩:=hr;obtain ⟨m71,rfl,h71⟩:=hw.out;refine ⟨_,rfl,?_⟩;refine ⟨H.row,?_⟩;refine ⟨H.row,?_⟩;exact gy H h71 q63 q66 q69
theorem sN (H:EK K0 K F b0 b1 b2 n) {b63:Nat} (q63:K b63=some (.cells #[vi 4] 3)) {b66:Nat} (q66:K b66=some (.cells #[vi 1] 3)) {b69:Nat} (q69:K b69=some (.cells #[vi 0] 3)) {m71:Sl} (h71:RL K m71 (cZ 0).1):lX #[Sl.v n,vi aM.2] b63 b66 #[Sl.v n,vi aM.2] b69 #[Sl.v m71,vi (cZ 0).2] b1 b0 (co K0) F:=by unfold lX;refine ⟨rfl,?_⟩;refine ⟨rfl,?_⟩;refine ⟨rfl,?_⟩;refine ⟨rfl,?_⟩;refine H.h.new λb73 K F l q73 h=> ?_;replace H:=H.up l h;replace q63:=l _ _ q63;replace q66:=l _ _ q66;replace q69:=l _ _ q69;replace h71:=h71.le l;exact KU H ⟨[_,_,_],.cons (fw (eQ q63) H.n) (.cons (fw (eQ q66) H.n) (.cons (fw (eQ q69) h71) .nil)),RdS.new q73 (by kernel_rfl) rfl (TT _)⟩
theorem jo (H:EK K0 K F b0 b1 b2 n) {m71:Sl} (h71:RL K m71 (cZ 0).1) {b66:Nat} (q66:K b66=some (.cells #[vi 1] 3)) {b69:Nat} (q69:K b69=some (.cells #[vi 0] 3)):gP #[Sl.v m71,vi (cZ 0).2] #[Sl.v n,vi aM.2] b66 #[Sl.v n,vi aM.2] b69 b1 b0 (co K0) F:=by unfold gP;refine ⟨rfl,?_⟩;refine H.h.new λb63 K F l q63 h=> ?_;replace H:=H.up l h;replace h71:=h71.le l;replace q66:=l _ _ q66;replace q69:=l _ _ q69;exact sN H q63 q66 q69 h71
theorem jp (H:EK K0 K F b0 b1 b2 n) {m70:Sl} (h70:RL K m70 (dia (tv 0)).1) {b66:Nat} (q66:K b66=some (.cells #[vi 1] 3)) {b69:Nat} (q69:K b69=some (.cells #[vi 0] 3)):gQ #[Sl.v n,vi aM.2] #[Sl.v m70,vi (dia (tv 0)).2] b2 #[Sl.v n,vi aM.2] b66 b69 b1 b0 (co K0) F:=by
 unfold gQ;refine ⟨?_,?_⟩
 ·refine H.h.new λb63 K F l q63 h=> ?_;replace H:=H.up l h;replace h70:=h70.le l;replace q66:=l _ _ q66;replace q69:=l _ _ q69;exact sM H h70 q63 q66 q69
 ·refine H.h.run (λG hl=>bv (x:=0) (by decide) ((DV.mk h70).le hl)) λ_ K F hr l h=> ?_;replace H:=H.up l h;replace h70:=h70.le l;replace q66:=l _ _ q66;replace q69:=l _ _ q69;obtain ⟨_,rfl,hw⟩:=hr;obtain ⟨m71,rfl,h71⟩:=hw.out;refine ⟨_,rfl,?_⟩;refine ⟨H.row,?_⟩;refine ⟨H.row,?_⟩;exact jo H h71 q66 q69
theorem BY (H:EK K0 K F b0 b1 b2 n) {b66:Nat} (q66:K b66=some (.cells #[vi 1] 3)) {b69:Nat} (q69:K b69=some (.cells #[vi 0] 3)):qY #[Sl.v n,vi aM.2] b2 #[Sl.v n,vi aM.2] b66 b69 b1 b0 (co K0) F:=by
 unfold qY;refine ⟨?_,?_⟩
 ·refine H.h.new λb63 K F l q63 h=> ?_;replace H:=H.up l h;replace q66:=l _ _ q66;replace q69:=l _ _ q69;exact sL H q63 q66 q69
 ·refine H.h.run (λG _=>aN 0 (by decide) G) λ_ K F hr l h=> ?_;replace H:=H.up l h;replace q66:=l _ _ q66;replace q69:=l _ _ q69;obtain ⟨_,rfl,hw⟩:=hr;obtain ⟨m70,rfl,h70⟩:=hw.out;refine ⟨_,rfl,?_⟩;refine ⟨H.row,?_⟩;refine ⟨H.row,?_⟩;exact jp H h70 q66 q69
theorem sO (H:EK K0 K F b0 b1 b2 n) {m70:Sl} (h70:RL K m70 (dia (tv 0)).1) {b63:Nat} (q63:K b63=some (.cells #[vi 4] 3)) {b66:Nat} (q66:K b66=some (.cells #[vi 1] 3)):lY #[Sl.v n,vi aM.2] #[Sl.v m70,vi (dia (tv 0)).2] b2 #[Sl.v n,vi aM.2] b63 b66 b1 b0 (co K0) F:=by
 unfold lY;refine ⟨rfl,?_⟩;refine ⟨?_,?_⟩
 ·refine H.h.new λb69 K F l q69 h=> ?_;replace H:=H.up l h;replace h70:=h70.le l;replace q63:=l _ _ q63;replace q66:=l _ _ q66;exact gz H h70 q63 q66 q69
 ·refine H.h.run (λG hl=>bv (x:=0) (by decide) ((DV.mk h70).le hl)) λ_ K F hr l h=> ?_;replace H:=H.up l h;replace h70:=h70.le l;replace q63:=l _ _ q63;replace q66:=l _ _ q66;obtain ⟨_,rfl,hw⟩:=hr;obtain ⟨m71,rfl,h71⟩:=hw.out;refine ⟨_,rfl,?_⟩;refine ⟨H.row,?_⟩;refine ⟨H.row,?_⟩;exact pQ H h71 q63 q66
theorem sP (H:EK K0 K F b0 b1 b2 n) {m71:Sl} (h71:RL K m71 (cZ 0).1) {b63:Nat} (q63:K b63=some (.cells #[vi 4] 3)) {b66:Nat} (q66:K b66=some (.cells #[vi 1] 3)):lZ #[Sl.v n,vi aM.2] #[Sl.v m71,vi (cZ 0).2] b63 b66 #[Sl.v n,vi aM.2] b1 b0 (co K0) F:=by unfold lZ;refine ⟨rfl,?_⟩;refine H.h.new λb69 K F l q69 h=> ?_;replace H:=H.up l h;replace h71:=h71.le l;replace q63:=l _ _ q63;replace q66:=l _ _ q66;exact gy H h71 q63 q66 q69
theorem sQ (H:EK K0 K F b0 b1 b2 n) {m71:Sl} (h71:RL K m71 (cZ 0).1) {b66:Nat} (q66:K b66=some (.cells #[vi 1] 3)):ma #[Sl.v n,vi aM.2] #[Sl.v m71,vi (cZ 0).2] b66 #[Sl.v n,vi aM.2] b1 b0 (co K0) F:=by
 unfold ma;refine ⟨?_,?_⟩
 ·refine H.h.new λb63 K F l q63 h=> ?_;replace H:=H.up l h;replace h71:=h71.le l;replace q66:=l _ _ q66;exact sP H h71 q63 q66
 ·refine H.h.new λb69 K F l q69 h=> ?_;replace H:=H.up l h;replace h71:=h71.le l;replace q66:=l _ _ q66;exact jo H h71 q66 q69
theorem BZ (H:EK K0 K F b0 b1 b2 n) {m70:Sl} (h70:RL K m70 (dia (tv 0)).1) {b66:Nat} (q66:K b66=some (.cells #[vi 1] 3)):qZ #[Sl.v n,vi aM.2] #[Sl.v m70,vi (dia (tv 0)).2] b2 #[Sl.v n,vi aM.2] b66 b1 b0 (co K0) F:=by
 unfold qZ;refine ⟨?_,?_,?_⟩
 ·refine H.h.new λb63 K F l q63 h=> ?_;replace H:=H.up l h;replace h70:=h70.le l;replace q66:=l _ _ q66;exact sO H h70 q63 q66
 ·refine H.h.new λb69 K F l q69 h=> ?_;replace H:=H.up l h;replace h70:=h70.le l;replace q66:=l _ _ q66;exact jp H h70 q66 q69
 ·refine H.h.run (λG hl=>bv (x:=0) (by decide) ((DV.mk h70).le hl)) λ_ K F hr l h=> ?_;replace H:=H.up l h;replace h70:=h70.le l;replace q66:=l _ _ q66;obtain ⟨_,rfl,hw⟩:=hr;obtain ⟨m71,rfl,h71⟩:=hw.out;refine ⟨_,rfl,?_⟩;refine ⟨H.row,?_⟩;refine ⟨H.row,?_⟩;exact sQ H h71 q66
theorem B0 (H:EK K0 K F b0 b1 b2 n) {b66:Nat} (q66:K b66=some (.cells #[vi 1] 3)):ra #[Sl.v n,vi aM.2] #[Sl.v n,vi aM.2] b2 b66 b1 b0 (co K0) F:=by
 unfold ra;refine ⟨rfl,?_⟩;refine ⟨?_,?_,?_⟩
 ·refine H.h.new λb63 K F l q63 h=> ?_;replace H:=H.up l h;replace q66:=l _ _ q66;exact BX H q63 q66
 ·refine H.h.new λb69 K F l q69 h=> ?_;replace H:=H.up l h;replace q66:=l _ _ q66;exact BY H q66 q69
 ·refine H.h.run (λG _=>aN 0 (by decide) G) λ_ K F hr l h=> ?_;replace H:=H.up l h;replace q66:=l _ _ q66;obtain ⟨_,rfl,hw⟩:=hr;obtain ⟨m70,rfl,h70⟩:=hw.out;refine ⟨_,rfl,?_⟩;refine ⟨H.row,?_⟩;refine ⟨H.row,?_⟩;exact BZ H h70 q66
theorem B1 (H:EK K0 K F b0 b1 b2 n) {b63:Nat} (q63:K b63=some (.cells #[vi 4] 3)) {b69:Nat} (q69:K b69=some (.cells #[vi 0] 3)):rb #[Sl.v n,vi aM.2] #[Sl.v n,vi aM.2] b2 b63 b69 b1 b0 (co K0) F:=by
 unfold rb;refine ⟨rfl,?_⟩;refine ⟨?_,?_⟩
 ·refine H.h.new λb66 K F l q66 h=> ?_;replace H:=H.up l h;replace q63:=l _ _ q63;replace q69:=l _ _ q69;exact sF H q63 q66 q69
 ·refine H.h.run (λG _=>aN 0 (by decide) G) λ_ K F hr l h=> ?_;replace H:=H.up l h;replace q63:=l _ _ q63;replace q69:=l _ _ q69;obtain ⟨_,rfl,hw⟩:=hr;obtain ⟨m70,rfl,h70⟩:=hw.out;refine ⟨_,rfl,?_⟩;refine ⟨H.row,?_⟩;refine ⟨H.row,?_⟩;exact jm H h70 q63 q69
theorem B2 (H:EK K0 K F b0 b1 b2 n) {b66:Nat} (q66:K b66=some (.cells #[vi 1] 3)) {b69:Nat} (q69:K b69=some (.cells #[vi 0] 3)):rc #[Sl.v n,vi aM.2] #[Sl.v n,vi aM.2] b2 b66 b69 b1 b0 (co K0) F:=by
 unfold rc;refine ⟨rfl,?_⟩;refine ⟨?_,?_⟩
 ·refine H.h.new λb63 K F l q63 h=> ?_;replace H:=H.up l h;replace q66:=l _ _ q66;replace q69:=l _ _ q69;exact sL H q63 q66 q69
 ·refine H.h.run (λG _=>aN 0 (by decide) G) λ_ K F hr l h=> ?_;replace H:=H.up l h;replace q66:=l _ _ q66;replace q69:=l _ _ q69;obtain ⟨_,rfl,hw⟩:=hr;obtain ⟨m70,rfl,h70⟩:=hw.out;refine ⟨_,rfl,?_⟩;refine ⟨H.row,?_⟩;refine ⟨H.row,?_⟩;exact jp H h70 q66 q69
theorem B3 (H:EK K0 K F b0 b1 b2 n) {m70:Sl} (h70:RL K m70 (dia (tv 0)).1) {b63:Nat} (q63:K b63=some (.cells #[vi 4] 3)) {b69:Nat} (q69:K b69=some (.cells #[vi 0] 3)):rg #[Sl.v n,vi aM.2] #[Sl.v n,vi aM.2] #[Sl.v m70,vi (dia (tv 0)).2] b2 b63 b69 b1 b0 (co K0) F:=by
 unfold rg;refine ⟨rfl,?_⟩;refine ⟨?_,?_⟩
 ·refine H.h.new λb66 K F l q66 h=> ?_;replace H:=H.up l h;replace h70:=h70.le l;replace q63:=l _ _ q63;replace q69:=l _ _ q69;exact sG H h70 q63 q66 q69
 ·refine H.h.run (λG hl=>bv (x:=0) (by decide) ((DV.mk h70).le hl)) λ_ K F hr l h=> ?_;replace H:=H.up l h;replace h70:=h70.le l;replace q63:=l _ _ q63;replace q69:=l _ _ q69;obtain ⟨_,rfl,hw⟩:=hr;obtain ⟨m71,rfl,h71⟩:=hw.out;refine ⟨_,rfl,?_⟩;refine ⟨H.row,?_⟩;refine ⟨H.row,?_⟩;exact jl H h71 q63 q69
theorem B4 (H:EK K0 K F b0 b1 b2 n) {m70:Sl} (h70:RL K m70 (dia (tv 0)).1) {b66:Nat} (q66:K b66=some (.cells #[vi 1] 3)) {b69:Nat} (q69:K b69=some (.cells #[vi 0] 3)):ri #[Sl.v n,vi aM.2] #[Sl.v n,vi aM.2] #[Sl.v m70,vi (dia (tv 0)).2] b2 b66 b69 b1 b0 (co K0) F:=by
 unfold ri;refine ⟨rfl,?_⟩;refine ⟨?_,?_⟩
 ·refine H.h.new λb63 K F l q63 h=> ?_;replace H:=H.up l h;replace h70:=h70.le l;replace q66:=l _ _ q66;replace q69:=l _ _ q69;exact sM H h70 q63 q66 q69
 ·refine H.h.run (λG hl=>bv (x:=0) (by decide) ((DV.mk h70).le hl)) λ_ K F hr l h=> ?_;replace H:=H.up l h;replace h70:=h70.le l;replace q66:=l _ _ q66;replace q69:=l _ _ q69;obtain ⟨_,rfl,hw⟩:=hr;obtain ⟨m71,rfl,h71⟩:=hw.out;refine ⟨_,rfl,?_⟩;refine ⟨H.row,?_⟩;refine ⟨H.row,?_⟩;exact jo H h71 q66 q69
theorem B5 (H:EK K0 K F b0 b1 b2 n) {b63:Nat} (q63:K b63=some (.cells #[vi 4] 3)) {b69:Nat} (q69:K b69=some (.cells #[vi 0] 3)) {m71:Sl} (h71:RL K m71 (cZ 0).1):rj #[Sl.v n,vi aM.2] #[Sl.v n,vi aM.2] b63 b69 #[Sl.v m71,vi (cZ 0).2] b1 b0 (co K0) F:=by unfold rj;refine ⟨rfl,?_⟩;refine H.h.new λb66 K F l q66 h=> ?_;replace H:=H.up l h;replace q63:=l _ _ q63;replace q69:=l _ _ q69;replace h71:=h71.le l;exact sH H q63 q66 q69 h71
theorem B6 (H:EK K0 K F b0 b1 b2 n) {b66:Nat} (q66:K b66=some (.cells #[vi 1] 3)) {b69:Nat} (q69:K b69=some (.cells #[vi 0] 3)) {m71:Sl} (h71:RL K m71 (cZ 0).1):rk #[Sl.v n,vi aM.2] #[Sl.v n,vi aM.2] b66 b69 #[Sl.v m71,vi (cZ 0).2] b1 b0 (co K0) F:=by unfold rk;refine ⟨rfl,?_⟩;refine H.h.new λb63 K F l q63 h=> ?_;replace H:=H.up l h;replace q66:=l _ _ q66;replace q69:=l _ _ q69;replace h71:=h71.le l;exact sN H q63 q66 q69 h71
theorem sR (H:EK K0 K F b0 b1 b2 n) {m71:Sl} (h71:RL K m71 (cZ 0).1) {b69:Nat} (q69:K b69=some (.cells #[vi 0] 3)):mb #[Sl.v m71,vi (cZ 0).2] #[Sl.v n,vi aM.2] #[Sl.v n,vi aM.2] b69 b1 b0 (co K0) F:=by
 unfold mb;refine ⟨rfl,?_⟩;refine ⟨?_,?_⟩
 ·refine H.h.new λb63 K F l q63 h=> ?_;replace H:=H.up l h;replace h71:=h71.le l;replace q69:=l _ _ q69;exact B5 H q63 q69 h71
 ·refine H.h.new λb66 K F l q66 h=> ?_;replace H:=H.up l h;replace h71:=h71.le l;replace q69:=l _ _ q69;exact B6 H q66 q69 h71
theorem sS (H:EK K0 K F b0 b1 b2 n) {m70:Sl} (h70:RL K m70 (dia (tv 0)).1) {b69:Nat} (q69:K b69=some (.cells #[vi 0] 3)):me #[Sl.v n,vi aM.2] #[Sl.v n,vi aM.2] #[Sl.v m70,vi (dia (tv 0)).2] b2 b69 b1 b0 (co K0) F:=by
 unfold me;refine ⟨?_,?_,?_⟩
 ·refine H.h.new λb63 K F l q63 h=> ?_;replace H:=H.up l h;replace h70:=h70.le l;replace q69:=l _ _ q69;exact B3 H h70 q63 q69
 ·refine H.h.new λb66 K F l q66 h=> ?_;replace H:=H.up l h;replace h70:=h70.le l;replace q69:=l _ _ q69;exact B4 H h70 q66 q69
 ·refine H.h.run (λG hl=>bv (x:=0) (by decide) ((DV.mk h70).le hl)) λ_ K F hr l h=> ?_;replace H:=H.up l h;replace h70:=h70.le l;replace q69:=l _ _ q69;obtain ⟨_,rfl,hw⟩:=hr;obtain ⟨m71,rfl,h71⟩:=hw.out;refine ⟨_,rfl,?_⟩;refine ⟨H.row,?_⟩;refine ⟨H.row,?_⟩;exact sR H h71 q69
theorem B7 (H:EK K0 K F b0 b1 b2 n) {b69:Nat} (q69:K b69=some (.cells #[vi 0] 3)):rm #[Sl.v n,vi aM.2] #[Sl.v n,vi aM.2] b2 b69 b1 b0 (co K0) F:=by
 unfold rm;refine ⟨?_,?_,?_⟩
 ·refine H.h.new λb63 K F l q63 h=> ?_;replace H:=H.up l h;replace q69:=l _ _ q69;exact B1 H q63 q69
 ·refine H.h.new λb66 K F l q66 h=> ?_;replace H:=H.up l h;replace q69:=l _ _ q69;exact B2 H q66 q69
 ·refine H.h.run (λG _=>aN 0 (by decide) G) λ_ K F hr l h=> ?_;replace H:=H.up l h;replace q69:=l _ _ q69;obtain ⟨_,rfl,hw⟩:=hr;obtain ⟨m70,rfl,h70⟩:=hw.out;refine ⟨_,rfl,?_⟩;refine ⟨H.row,?_⟩;refine ⟨H.row,?_⟩;exact sS H h70 q69
theorem B8 (H:EK K0 K F b0 b1 b2 n) {m70:Sl} (h70:RL K m70 (dia (tv 0)).1) {b63:Nat} (q63:K b63=some (.cells #[vi 4] 3)):rn #[Sl.v n,vi aM.2] #[Sl.v n,vi aM.2] #[Sl.v m70,vi (dia (tv 0)).2] b2 b63 b1 b0 (co K0) F:=by
 unfold rn;refine ⟨rfl,?_⟩;refine ⟨?_,?_,?_⟩
 ·refine H.h.new λb66 K F l q66 h=> ?_;replace H:=H.up l h;replace h70:=h70.le l;replace q63:=l _ _ q63;exact sI H h70 q63 q66
 ·refine H.h.new λb69 K F l q69 h=> ?_;replace H:=H.up l h;replace h70:=h70.le l;replace q63:=l _ _ q63;exact jm H h70 q63 q69
 ·refine H.h.run (λG hl=>bv (x:=0) (by decide) ((DV.mk h70).le hl)) λ_ K F hr l h=> ?_;replace H:=H.up l h;replace h70:=h70.le l;replace q63:=l _ _ q63;obtain ⟨_,rfl,hw⟩:=hr;obtain ⟨m71,rfl,h71⟩:=hw.out;refine ⟨_,rfl,?_⟩;refine ⟨H.row,?_⟩;refine ⟨H.row,?_⟩;exact sK H h71 q63
theorem B9 (H:EK K0 K F b0 b1 b2 n) {m70:Sl} (h70:RL K m70 (dia (tv 0)).1) {b66:Nat} (q66:K b66=some (.cells #[vi 1] 3)):ro #[Sl.v n,vi aM.2] #[Sl.v n,vi aM.2] #[Sl.v m70,vi (dia (tv 0)).2] b2 b66 b1 b0 (co K0) F:=by
 unfold ro;refine ⟨rfl,?_⟩;refine ⟨?_,?_,?_⟩
 ·refine H.h.new λb63 K F l q63 h=> ?_;replace H:=H.up l h;replace h70:=h70.le l;replace q66:=l _ _ q66;exact sO H h70 q63 q66
 ·refine H.h.new λb69 K F l q69 h=> ?_;replace H:=H.up l h;replace h70:=h70.le l;replace q66:=l _ _ q66;exact jp H h70 q66 q69
 ·refine H.h.run (λG hl=>bv (x:=0) (by decide) ((DV.mk h70).le hl)) λ_ K F hr l h=> ?_;replace H:=H.up l h;replace h70:=h70.le l;replace q66:=l _ _ q66;obtain ⟨_,rfl,hw⟩:=hr;obtain ⟨m71,rfl,h71⟩:=hw.out;refine ⟨_,rfl,?_⟩;refine ⟨H.row,?_⟩;refine ⟨H.row,?_⟩;exact sQ H h71 q66
theorem Cb (H:EK K0 K F b0 b1 b2 n) {m71:Sl} (h71:RL K m71 (cZ 0).1) {b63:Nat} (q63:K b63=some (.cells #[vi 4] 3)):rp #[Sl.v n,vi aM.2] #[Sl.v n,vi aM.2] #[Sl.v m71,vi (cZ 0).2] b63 b1 b0 (co K0) F:=by
 unfold rp;refine ⟨rfl,?_⟩;refine ⟨?_,?_⟩
 ·refine H.h.new λb66 K F l q66 h=> ?_;replace H:=H.up l h;replace h71:=h71.le l;replace q63:=l _ _ q63;exact sJ H h71 q63 q66
 ·refine H.h.new λb69 K F l q69 h=> ?_;replace H:=H.up l h;replace h71:=h71.le l;replace q63:=l _ _ q63;exact jl H h71 q63 q69
theorem Cc (H:EK K0 K F b0 b1 b2 n) {m71:Sl} (h71:RL K m71 (cZ 0).1) {b66:Nat} (q66:K b66=some (.cells #[vi 1] 3)):rq #[Sl.v n,vi aM.2] #[Sl.v n,vi aM.2] #[Sl.v m71,vi (cZ 0).2] b66 b1 b0 (co K0) F:=by
 unfold rq;refine ⟨rfl,?_⟩;refine ⟨?_,?_⟩
 ·refine H.h.new λb63 K F l q63 h=> ?_;replace H:=H.up l h;replace h71:=h71.le l;replace q66:=l _ _ q66;exact sP H h71 q63 q66
 ·refine H.h.new λb69 K F l q69 h=> ?_;replace H:=H.up l h;replace h71:=h71.le l;replace q66:=l _ _ q66;exact jo H h71 q66 q69
theorem Cd (H:EK K0 K F b0 b1 b2 n) {m71:Sl} (h71:RL K m71 (cZ 0).1):rt #[Sl.v n,vi aM.2] #[Sl.v n,vi aM.2] #[Sl.v m71,vi (cZ 0).2] b1 b0 (co K0) F:=by
 unfold rt;refine ⟨?_,?_,?_⟩
 ·refine H.h.new λb63 K F l q63 h=> ?_;replace H:=H.up l h;replace h71:=h71.le l;exact Cb H h71 q63
 ·refine H.h.new λb66 K F l q66 h=> ?_;replace H:=H.up l h;replace h71:=h71.le l;exact Cc H h71 q66
 ·refine H.h.new λb69 K F l q69 h=> ?_;replace H:=H.up l h;replace h71:=h71.le l;exact sR H h71 q69
theorem Ce (H:EK K0 K F b0 b1 b2 n) {m70:Sl} (h70:RL K m70 (dia (tv 0)).1):ru #[Sl.v n,vi aM.2] #[Sl.v n,vi aM.2] #[Sl.v m70,vi (dia (tv 0)).2] b2 b1 b0 (co K0) F:=by
 unfold ru;refine ⟨?_,?_,?_,?_⟩
 ·refine H.h.new λb63 K F l q63 h=> ?_;replace H:=H.up l h;replace h70:=h70.le l;exact B8 H h70 q63
 ·refine H.h.new λb66 K F l q66 h=> ?_;replace H:=H.up l h;replace h70:=h70.le l;exact B9 H h70 q66
 ·refine H.h.new λb69 K F l q69 h=> ?_;replace H:=H.up l h;replace h70:=h70.le l;exact sS H h70 q69
 ·refine H.h.run (λG hl=>bv (x:=0) (by decide) ((DV.mk h70).le hl)) λ_ K F hr l h=> ?_;replace H:=H.up l h;replace h70:=h70.le l;obtain ⟨_,rfl,hw⟩:=hr;obtain ⟨m71,rfl,h71⟩:=hw.out;refine ⟨_,rfl,?_⟩;refine ⟨H.row,?_⟩;refine ⟨H.row,?_⟩;exact Cd H h71
end
theorem mC (F:PH):aj prog 129 #[] F λr F'=>(∃w,r=.agg w/\GV F' w cv)/\F.le F':=by
 refine Qf ?_;unfold Kt;refine gA F [⟨#[69]⟩] rfl rfl λb0 b1 F1 h=> ?_;refine h.allv λb2 K1 F2 n l1 q hn h=> ?_;refine h.rule3 (d7 0) (cO 1) (d7 0) (by decide) λF2 h=> ?_;refine h.rule3 (d7 0) (cO 2) (d7 0) (by decide) λF2 h=> ?_;refine h.rule3 (cO 3) (d7 0) (cO 4) (by decide) λF2 h=> ?_;refine h.rule1 (cO 0) (by decide) λF2 h=> ?_;refine h.rule3 (d7 0) (cO 8) (d7 0) (by decide) λF2 h=> ?_;refine h.brk 2 rfl λF2 h=> ?_;refine h.cnd 4 rfl 1 (by decide) λF2 h=> ?_;refine ⟨_,rfl,ac (h.le _ _ q),_,rfl,ac (h.le _ _ q),?_⟩;have H:EK F _ _ b0 b1 b2 n:=⟨h,l1,q,hn⟩;refine ⟨?_,?_,?_,?_⟩
 ·refine H.h.new λb63 K F l q63 h=> ?_;replace H:=H.up l h;exact Dl H q63
 ·refine H.h.new λb66 K F l q66 h=> ?_;replace H:=H.up l h;exact B0 H q66
 ·refine H.h.new λb69 K F l q69 h=> ?_;replace H:=H.up l h;exact B7 H q69
 ·refine H.h.run (λG _=>aN 0 (by decide) G) λ_ K F hr l h=> ?_;replace H:=H.up l h;obtain ⟨_,rfl,hw⟩:=hr;obtain ⟨m70,rfl,h70⟩:=hw.out;refine ⟨_,rfl,?_⟩;refine ⟨H.row,?_⟩;refine ⟨H.row,?_⟩;exact Ce H h70
noncomputable def ca (k:Nat):Gr:=if k=0 then cv else if k=1 then bZ else if k=2 then cX else if k=3 then jq else if k=4 then gB else gC
theorem x8 (k:Nat) (F:PH):aj prog 80 #[.int .u8 (k:Int)] F λr F'=>(∃w,r=.agg w/\GV F' w (ca (k % 6)))/\F.le F':=by
 refine ST ?_;unfold P6;refine (St.start F).new λb F1 h=> ?_;have e:Int.tmod (k:Int) 6=((k % 6:Nat):Int):=by rw [UB (by omega)];omega
 rw [e];have hk:k % 6<6:=UF _ (by decide);generalize k % 6=j at*;have fin:∀{v:Value} {G F1:PH},F.le G->(∃w,v=Value.agg w/\GV G w (ca j))->St G F1 [pt b (.cells zG 37)]->∃w:Γ,v=Value.agg w/\az F1 (Addr.mk b 0 none) 9 w λF2=>∃w:Γ,w.size=9/\F2.row (Addr.mk b 0 none) w/\((∃w',Value.agg w=Value.agg w'/\GV F2 w' (ca j))/\F.le F2):=λ{v G F1} hl hv h=>by obtain ⟨w,rfl,hv⟩:=hv;exact ⟨w,rfl,h.put0 (w':=w) hv.size rfl hv.st λF2 h=>⟨w,hv.size,h.whole0,⟨w,rfl,hv.le h.le⟩,aa hl h.le⟩⟩
 refine ⟨λh0=> ?_,λh0=>⟨λh1=> ?_,λh1=>⟨λh2=> ?_,λh2=>⟨λh3=> ?_,λh3=>⟨λh4=> ?_,λh4=> ?_⟩⟩⟩⟩⟩
 ·obtain rfl:j=0:=by omega
  exact h.run (mC _) λ_ G F2 hr l h=>fin l hr h
 ·obtain rfl:j=1:=by omega
  exact h.run (ot _) λ_ G F2 hr l h=>fin l hr h
 ·obtain rfl:j=2:=by omega
  exact h.run (kM _) λ_ G F2 hr l h=>fin l hr h
 ·obtain rfl:j=3:=by omega
  exact h.run (wu _) λ_ G F2 hr l h=>fin l hr h
 ·obtain rfl:j=4:=by omega
  exact h.run (ug _) λ_ G F2 hr l h=>fin l hr h
 ·obtain rfl:j=5:=by omega
  exact h.run (uj _) λ_ G F2 hr l h=>fin l hr h
end Go.Proofs.YtcemhghkipgdiaaGreatDoor
