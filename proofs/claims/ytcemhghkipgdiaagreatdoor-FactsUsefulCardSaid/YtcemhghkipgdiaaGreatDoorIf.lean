/-
  Known grammars with levels and filters; all of them. Printed by a program (mkIf.py).
-/
import Derived.Test.YtcemhghkipgdiaaGreatDoorIe
namespace Go.Proofs.YtcemhghkipgdiaaGreatDoor
open Go Go.Proofs.Tryz Tr
set_option maxRecDepth 10000
theorem eJ {F:PH} {b:Nat} {e:TypeId} {x:Int} (q:F b=some (.cells #[vi x] e)):RL F (Sl.mk (some (Addr.mk b 0 none)) 1 1) [x]:=RL.ints.2 (RdS.new q rfl rfl (Tj _))
theorem oD {F:PH} {x:Fi} {t n:Sl} (ht:RL F t x.toks) (hn:RL F n x.cond.1):Mem.rep F x (x.arr t n):=⟨t,n,rfl,ht,hn⟩
theorem fu {F:PH} {x:Lv} {p n:Sl} (hp:RL F p x.ps) (hn:RL F n x.cond.1):Mem.rep F x (x.arr p n):=⟨p,n,rfl,hp,hn⟩
theorem uc (F:PH):aj prog 133 #[] F λr F'=>(∃w,r=.agg w/\GV F' w gC)/\F.le F':=by refine PP ?_;unfold J4;refine gB F [⟨#[83]⟩,⟨#[87]⟩,⟨#[86]⟩] rfl rfl λb0 b1 F1 h=> ?_;refine h.rule2 (d8 1) (d8 2) (by decide) λF2 h=> ?_;refine h.rule1 (cK 0) (by decide) λF2 h=> ?_;refine h.rule2 (cK 0) (cK 0) (by decide) λF2 h=> ?_;refine h.rule0 (by decide) λF2 h=> ?_;refine h.rule2 (cK 0) (d8 2) (by decide) λF2 h=> ?_;refine h.rule2 (cK 1) (d8 2) (by decide) λF2 h=> ?_;refine h.rank 1 rfl λF2 h=> ?_;refine h.cnd 5 rfl 1 (by decide) λF2 h=> ?_;refine h.new λb64 K3 F3 l3 q64 h=> ?_;refine h.run (λG _=>aM 0 (by decide) G) λ_ K4 F4 hr l4 h=> ?_;obtain ⟨_,rfl,hw⟩:=hr;obtain ⟨m,rfl,hm⟩:=hw.out;refine ⟨_,rfl,rfl,?_⟩;refine h.new λb67 K5 F5 l5 q67 h=> ?_;refine h.run (λG _=>aM 1 (by decide) G) λ_ K6 F6 hr l6 h=> ?_;obtain ⟨_,rfl,hv⟩:=hr;refine ⟨_,rfl,?_⟩;refine h.run (λG hl=>bv (by decide) (hv.le hl)) λ_ K7 F7 hr l7 h=> ?_;obtain ⟨_,rfl,hw⟩:=hr;obtain ⟨m',rfl,hm'⟩:=hw.out;refine ⟨_,rfl,rfl,rfl,rfl,?_⟩;refine h.new λb71 K8 F8 l8 q71 h=> ?_;have l58:=aa l6 (aa l7 l8);have l48:=aa l5 l58;refine h.fils (x:=[⟨3,0,0,0,1,0,[0],dia (tv 0)⟩,⟨4,0,0,0,2,0,[1],cX 1⟩]) ⟨[_,_],.cons (oD (eJ (l48 _ _ (l4 _ _ q64))) (hm.le l48)) (.cons (oD (eJ (l58 _ _ q67)) (hm'.le l8)) .nil),RdS.new q71 (by kernel_rfl) rfl (Tj _)⟩ λF9 h=> ?_;exact h.fin (R:=λr F'=>(∃w,r=.agg w/\GV F' w gC)/\F.le F') λw F' hv hl=>⟨⟨w,rfl,hv⟩,aa l3 (aa l4 (aa l48 hl))⟩
noncomputable def ud:Gr:={(cz [⟨#[83]⟩,⟨#[67]⟩]) with prods:=ca.prods}
theorem zU {K F F0:PH} {b0 b1 b61 b64:Nat} {g:Gr} {c n t s sp l m v:Sl} {vs:List Γ} (hF:F0.le K) (hg:{g with fils:=[⟨2,0,2,1,0,0,[],dia (tv 0)⟩,⟨5,0,0,0,0,0,[5,6],dia (tv 1)⟩]}=ca)
  (st:St K F [pt b64 (.cells (wr (wr (#[.int .i64 0,.int .i64 0,.int .i64 0,.int .i64 0,.int .i64 0,.int .i64 0,.slice none 0 0,.slice none 0 0,.int .i64 0,.int .i64 0,.int .i64 0,.int .i64 0,.int .i64 0,.int .i64 0,.int .i64 0,.slice none 0 0,.slice none 0 0,.int .i64 0]:Γ) 0 (wr (Array.setIfInBounds (Array.setIfInBounds (Array.setIfInBounds (#[.int .i64 0,.int .i64 0,.int .i64 0,.int .i64 0,.int .i64 0,.int .i64 0,.slice none 0 0,.slice none 0 0,.int .i64 0]:Γ) 0 (vi 2)) 2 (vi 2)) 3 (vi 1)) 7 (#[m.v,vi (dia (tv 0)).2]:Γ).toList).toList) 9 (wr (Array.setIfInBounds (Array.setIfInBounds (#[.int .i64 0,.int .i64 0,.int .i64 0,.int .i64 0,.int .i64 0,.int .i64 0,.slice none 0 0,.slice none 0 0,.int .i64 0]:Γ) 0 (vi 5)) 6 (Sl.v (Sl.mk (some (Addr.mk b61 0 none)) 2 2))) 7 (#[v.v,vi aK.2]:Γ).toList).toList) 156),pt b1 (.cells (g.arr c n t s sp l (Sl.mk (some (Addr.mk b64 0 none)) 2 2)) 37),own sp 55 13 (cat vs),pt b0 (.cells zG 37)])
  (hr:cO K g.prods vs) (hc:RL K c g.conds) (hn:RL K n g.fam.1) (ht:RL K t g.toks) (hs:RL K s g.nons) (hl:RL K l g.lvs) (hm:RL K m (dia (tv 0)).1) (q61:RL K (Sl.mk (some (Addr.mk b61 0 none)) 2 2) [(5:Int),6]):
  pi b0 b1 (λr F'=>(∃w,r=.agg w/\GV F' w ca)/\F0.le F') F:=by
 unfold pi;refine ⟨_,st.ld1 rfl,?_⟩;refine st.run (aM 1 (by decide) _) λ_ K1 F1 hr1 l1 st=> ?_;obtain ⟨_,rfl,hw⟩:=hr1;obtain ⟨m1,rfl,hm1⟩:=hw.out;refine ⟨_,rfl,st.ld1 rfl,_,rfl,by decide,(by show (1:Int)<2;decide),?_⟩;simp only [aC];refine st.putR0 (o:=16) (w':= #[vi 2,vi 0,vi 2,vi 1,vi 0,vi 0,Sl.v Sl.nil,m.v,vi (dia (tv 0)).2,vi 5,vi 0,vi 0,vi 0,vi 0,vi 0,Sl.v (Sl.mk (some (Addr.mk b61 0 none)) 2 2),m1.v,vi (dia (tv 1)).2]) rfl (by simp [al,Sl.v]) (by rw [dP,dP];show 16+2<=18;decide) (by kernel_rfl) λF2 st=> ?_;obtain ⟨K2,l2,⟨H,hA,hH⟩,st⟩:=st.pin;have q:=hH _ _ hA;have l12:=aa l1 l2;have hf:RL K2 (Sl.mk (some (Addr.mk b64 0 none)) 2 2) [(⟨2,0,2,1,0,0,[],dia (tv 0)⟩:Fi),⟨5,0,0,0,0,0,[5,6],dia (tv 1)⟩]:=
  ⟨[_,_],.cons (oD (t:=Sl.nil) (.nil _) (hm.le l12)) (.cons (oD (q61.le l12) (hm1.le l2)) .nil),RdS.new q (by kernel_rfl) rfl (Tj _)⟩
 have h:KS K2 F2 b0 b1 ca:=by rw [<- hg];exact ⟨K2,c,n,t,s,sp,l,_,vs,aq _,st,hr.le l12,hc.le l12,hn.le l12,ht.le l12,hs.le l12,hl.le l12,hf⟩
 exact h.fin (R:=λr F'=>(∃w,r=.agg w/\GV F' w ca)/\F0.le F') λw F' hv hl=>⟨⟨w,rfl,hv⟩,aa hF (aa l12 hl)⟩
theorem oo (F:PH):aj prog 130 #[] F λr F'=>(∃w,r=.agg w/\GV F' w ca)/\F.le F':=by
 refine PM ?_;unfold J1;refine gB F [⟨#[83]⟩,⟨#[67]⟩] rfl rfl λb0 b1 F1 h=> ?_;refine h.allv λb2 K1 F2 n l1 q hn h=> ?_;refine h.rule5 (cK 5) (d8 1) (d8 0) (cK 6) (d8 0) (by decide) λF2 h=> ?_;refine h.rule3 (cK 5) (d8 1) (d8 0) (by decide) λF2 h=> ?_;refine h.rule2 (d8 1) (cK 7) (by decide) λF2 h=> ?_;refine h.rule3 (cK 3) (d8 0) (cK 4) (by decide) λF2 h=> ?_;refine h.rule1 (cK 0) (by decide) λF2 h=> ?_;refine h.brk 3 rfl λF2 h=> ?_;refine ⟨_,rfl,ac (h.le _ _ q),?_⟩;obtain ⟨G,c,n',t,s,sp,l,f,vs,h⟩:=h;have hn:=hn.le h.k;have l1:=aa l1 h.k;refine ⟨?_,?_⟩
 ·refine h.st.run (aM 0 (by decide) _) λ_ K4 F4 hr l4 st=> ?_;obtain ⟨_,rfl,hw⟩:=hr;obtain ⟨m,rfl,hm⟩:=hw.out;refine ⟨_,rfl,ac (st.le _ _ (l4 _ _ (h.k _ _ q))),rfl,?_⟩;refine st.newG λb61 K5 F5 l5 q61 _ st=> ?_;refine ⟨rfl,rfl,rfl,?_⟩;refine st.new λb64 F6 st=> ?_;refine st.set1 (w':=(ud.arr c n' t s sp l (Sl.mk (some (Addr.mk b64 0 none)) 2 2))) (by show 8<9;decide) rfl λF7 st=> ?_;have l45:=aa l4 l5;exact zU (g:=ud) (aa l1 l45) rfl st (h.r.le l45) (h.c.le l45) (h.n.le l45) (h.t.le l45) (h.s.le l45) (h.l.le l45) (hm.le l5) (RL.ints.2 (RdS.new q61 rfl rfl (Tj _)))
 ·refine h.st.newG λb61 K5 F5 l5 q61 _ st=> ?_;refine ⟨rfl,?_⟩;refine st.run (aM 0 (by decide) _) λ_ K4 F4 hr l4 st=> ?_;obtain ⟨_,rfl,hw⟩:=hr;obtain ⟨m,rfl,hm⟩:=hw.out;refine ⟨_,rfl,ac (st.le _ _ (l4 _ _ (l5 _ _ (h.k _ _ q)))),rfl,rfl,rfl,?_⟩;refine st.new λb64 F6 st=> ?_;refine st.set1 (w':=(ud.arr c n' t s sp l (Sl.mk (some (Addr.mk b64 0 none)) 2 2))) (by show 8<9;decide) rfl λF7 st=> ?_;have l45:=aa l5 l4;exact zU (g:=ud) (aa l1 l45) rfl st (h.r.le l45) (h.c.le l45) (h.n.le l45) (h.t.le l45) (h.s.le l45) (h.l.le l45) hm ((RL.ints.2 (RdS.new q61 rfl rfl (Tj _))).le l4)
noncomputable def Io:Gr:={cw with lvs:=[]}
structure EK (K0 K F:PH) (b0 b1 b2:Nat) (n:Sl):Prop where
 h:KS K F b0 b1 Io
 l:K0.le K
 q:K b2=some (.cells #[Sl.v n,vi aK.2] 31)
 n:RL K n aK.1
theorem EK.up {K0 K F K' F':PH} {b0 b1 b2:Nat} {n:Sl} (H:EK K0 K F b0 b1 b2 n) (l:K.le K') (h:KS K' F' b0 b1 Io):EK K0 K' F' b0 b1 b2 n:=⟨h,aa H.l l,l _ _ H.q,H.n.le l⟩
theorem EK.row {K0 K F:PH} {b0 b1 b2:Nat} {n:Sl} (H:EK K0 K F b0 b1 b2 n):F.row (Addr.mk b2 0 none) #[Sl.v n,vi aK.2]:=ac (H.h.le _ _ H.q)
section
variable {K0 K F:PH} {b0 b1 b2:Nat} {n:Sl}
abbrev cq (K0:PH):VR:=λr F'=>(∃w,r=.agg w/\GV F' w cw)/\K0.le F'
theorem Kt (H:EK K0 K F b0 b1 b2 n) {b73:Nat} (hr:RL K (Sl.mk (some (Addr.mk b73 0 none)) 3 3) cw.lvs):lI b1 b73 b0 (cq K0) F:=by unfold lI;refine H.h.lvs hr λF9 h=> ?_;unfold A8;exact h.fin (R:=cq K0) λw F' hv hl=>⟨⟨w,rfl,hv⟩,aa H.l hl⟩
theorem gz (H:EK K0 K F b0 b1 b2 n) {m71:Sl} (h71:RL K m71 (cX 0).1) {b63:Nat} (q63:K b63=some (.cells #[vi 4] 3)) {b66:Nat} (q66:K b66=some (.cells #[vi 1] 3)) {b69:Nat} (q69:K b69=some (.cells #[vi 0] 3)):gg #[Sl.v m71,vi (cX 0).2] b63 #[Sl.v n,vi aK.2] b66 #[Sl.v n,vi aK.2] b69 b1 b0 (cq K0) F:=by unfold gg;refine ⟨rfl,?_⟩;refine ⟨rfl,?_⟩;refine ⟨rfl,?_⟩;refine ⟨rfl,?_⟩;refine H.h.new λb73 K F l q73 h=> ?_;replace H:=H.up l h;replace h71:=h71.le l;replace q63:=l _ _ q63;replace q66:=l _ _ q66;replace q69:=l _ _ q69;exact Kt H ⟨[_,_,_],.cons (fu (eJ q63) H.n) (.cons (fu (eJ q66) H.n) (.cons (fu (eJ q69) h71) .nil)),RdS.new q73 (by kernel_rfl) rfl (Tj _)⟩
theorem gA (H:EK K0 K F b0 b1 b2 n) {m70:Sl} (h70:RL K m70 (dia (tv 0)).1) {b63:Nat} (q63:K b63=some (.cells #[vi 4] 3)) {b66:Nat} (q66:K b66=some (.cells #[vi 1] 3)) {b69:Nat} (q69:K b69=some (.cells #[vi 0] 3)):gh #[Sl.v m70,vi (dia (tv 0)).2] b2 #[Sl.v n,vi aK.2] #[Sl.v n,vi aK.2] b63 b66 b69 b1 b0 (cq K0) F:=by unfold gh;refine H.h.run (λG hl=>bv (x:=0) (by decide) ((DV.mk h70).le hl)) λ_ K F hr l h=> ?_;replace H:=H.up l h;replace h70:=h70.le l;replace q63:=l _ _ q63;replace q66:=l _ _ q66;replace q69:=l _ _ q69;obtain ⟨_,rfl,hw⟩:=hr;obtain ⟨m71,rfl,h71⟩:=hw.out;refine ⟨_,rfl,?_⟩;refine ⟨H.row,?_⟩;refine ⟨H.row,?_⟩;exact gz H h71 q63 q66 q69
theorem v8 (H:EK K0 K F b0 b1 b2 n) {b63:Nat} (q63:K b63=some (.cells #[vi 4] 3)) {b66:Nat} (q66:K b66=some (.cells #[vi 1] 3)) {b69:Nat} (q69:K b69=some (.cells #[vi 0] 3)):pg b2 #[Sl.v n,vi aK.2] #[Sl.v n,vi aK.2] b63 b66 b69 b1 b0 (cq K0) F:=by unfold pg;refine H.h.run (λG _=>aM 0 (by decide) G) λ_ K F hr l h=> ?_;replace H:=H.up l h;replace q63:=l _ _ q63;replace q66:=l _ _ q66;replace q69:=l _ _ q69;obtain ⟨_,rfl,hw⟩:=hr;obtain ⟨m70,rfl,h70⟩:=hw.out;refine ⟨_,rfl,?_⟩;refine ⟨H.row,?_⟩;refine ⟨H.row,?_⟩;exact gA H h70 q63 q66 q69
theorem pQ (H:EK K0 K F b0 b1 b2 n) {m71:Sl} (h71:RL K m71 (cX 0).1) {b63:Nat} (q63:K b63=some (.cells #[vi 4] 3)) {b66:Nat} (q66:K b66=some (.cells #[vi 1] 3)):lJ #[Sl.v m71,vi (cX 0).2] b63 #[Sl.v n,vi aK.2] b66 #[Sl.v n,vi aK.2] b1 b0 (cq K0) F:=by unfold lJ;refine H.h.new λb69 K F l q69 h=> ?_;replace H:=H.up l h;replace h71:=h71.le l;replace q63:=l _ _ q63;replace q66:=l _ _ q66;exact gz H h71 q63 q66 q69
theorem wa (H:EK K0 K F b0 b1 b2 n) {m70:Sl} (h70:RL K m70 (dia (tv 0)).1) {b63:Nat} (q63:K b63=some (.cells #[vi 4] 3)) {b66:Nat} (q66:K b66=some (.cells #[vi 1] 3)):ph #[Sl.v m70,vi (dia (tv 0)).2] b2 #[Sl.v n,vi aK.2] #[Sl.v n,vi aK.2] b63 b66 b1 b0 (cq K0) F:=by
 unfold ph;refine ⟨?_,?_⟩
 ·refine H.h.new λb69 K F l q69 h=> ?_;replace H:=H.up l h;replace h70:=h70.le l;replace q63:=l _ _ q63;replace q66:=l _ _ q66;exact gA H h70 q63 q66 q69
 ·refine H.h.run (λG hl=>bv (x:=0) (by decide) ((DV.mk h70).le hl)) λ_ K F hr l h=> ?_;replace H:=H.up l h;replace h70:=h70.le l;replace q63:=l _ _ q63;replace q66:=l _ _ q66;obtain ⟨_,rfl,hw⟩:=hr;obtain ⟨m71,rfl,h71⟩:=hw.out;refine ⟨_,rfl,?_⟩;refine ⟨H.row,?_⟩;refine ⟨H.row,?_⟩;exact pQ H h71 q63 q66
theorem C2 (H:EK K0 K F b0 b1 b2 n) {b63:Nat} (q63:K b63=some (.cells #[vi 4] 3)) {b66:Nat} (q66:K b66=some (.cells #[vi 1] 3)):u6 #[Sl.v n,vi aK.2] b2 #[Sl.v n,vi aK.2] b63 b66 b1 b0 (cq K0) F:=by
 unfold u6;refine ⟨rfl,?_⟩;refine ⟨?_,?_⟩
 ·refine H.h.new λb69 K F l q69 h=> ?_;replace H:=H.up l h;replace q63:=l _ _ q63;replace q66:=l _ _ q66;exact v8 H q63 q66 q69
 ·refine H.h.run (λG _=>aM 0 (by decide) G) λ_ K F hr l h=> ?_;replace H:=H.up l h;replace q63:=l _ _ q63;replace q66:=l _ _ q66;obtain ⟨_,rfl,hw⟩:=hr;obtain ⟨m70,rfl,h70⟩:=hw.out;refine ⟨_,rfl,?_⟩;refine ⟨H.row,?_⟩;refine ⟨H.row,?_⟩;exact wa H h70 q63 q66
theorem sE (H:EK K0 K F b0 b1 b2 n) {b63:Nat} (q63:K b63=some (.cells #[vi 4] 3)) {b66:Nat} (q66:K b66=some (.cells #[vi 1] 3)) {b69:Nat} (q69:K b69=some (.cells #[vi 0] 3)):lK #[Sl.v n,vi aK.2] b2 #[Sl.v n,vi aK.2] b63 b66 b69 b1 b0 (cq K0) F:=by unfold lK;refine ⟨rfl,?_⟩;refine H.h.run (λG _=>aM 0 (by decide) G) λ_ K F hr l h=> ?_;replace H:=H.up l h;replace q63:=l _ _ q63;replace q66:=l _ _ q66;replace q69:=l _ _ q69;obtain ⟨_,rfl,hw⟩:=hr;obtain ⟨m70,rfl,h70⟩:=hw.out;refine ⟨_,rfl,?_⟩;refine ⟨H.row,?_⟩;refine ⟨H.row,?_⟩;exact gA H h70 q63 q66 q69
theorem sF (H:EK K0 K F b0 b1 b2 n) {m70:Sl} (h70:RL K m70 (dia (tv 0)).1) {b63:Nat} (q63:K b63=some (.cells #[vi 4] 3)) {b66:Nat} (q66:K b66=some (.cells #[vi 1] 3)) {b69:Nat} (q69:K b69=some (.cells #[vi 0] 3)):lL #[Sl.v n,vi aK.2] #[Sl.v m70,vi (dia (tv 0)).2] b2 #[Sl.v n,vi aK.2] b63 b66 b69 b1 b0 (cq K0) F:=by unfold lL;refine ⟨rfl,?_⟩;refine H.h.run (λG hl=>bv (x:=0) (by decide) ((DV.mk h70).le hl)) λ_ K F hr l h=> ?_;replace H:=H.up l h;replace h70:=h70.le l;replace q63:=l _ _ q63;replace q66:=l _ _ q66;replace q69:=l _ _ q69;obtain ⟨_,rfl,hw⟩:=hr;obtain ⟨m71,rfl,h71⟩:=hw.out;refine ⟨_,rfl,?_⟩;refine ⟨H.row,?_⟩;refine ⟨H.row,?_⟩;exact gz H h71 q63 q66 q69
theorem sG (H:EK K0 K F b0 b1 b2 n) {b63:Nat} (q63:K b63=some (.cells #[vi 4] 3)) {b66:Nat} (q66:K b66=some (.cells #[vi 1] 3)) {b69:Nat} (q69:K b69=some (.cells #[vi 0] 3)) {m71:Sl} (h71:RL K m71 (cX 0).1):lM #[Sl.v n,vi aK.2] b63 #[Sl.v n,vi aK.2] b66 b69 #[Sl.v m71,vi (cX 0).2] b1 b0 (cq K0) F:=by unfold lM;refine ⟨rfl,?_⟩;refine ⟨rfl,?_⟩;refine ⟨rfl,?_⟩;refine ⟨rfl,?_⟩;refine H.h.new λb73 K F l q73 h=> ?_;replace H:=H.up l h;replace q63:=l _ _ q63;replace q66:=l _ _ q66;replace q69:=l _ _ q69;replace h71:=h71.le l;exact Kt H ⟨[_,_,_],.cons (fu (eJ q63) H.n) (.cons (fu (eJ q66) H.n) (.cons (fu (eJ q69) h71) .nil)),RdS.new q73 (by kernel_rfl) rfl (Tj _)⟩
theorem jq (H:EK K0 K F b0 b1 b2 n) {m71:Sl} (h71:RL K m71 (cX 0).1) {b63:Nat} (q63:K b63=some (.cells #[vi 4] 3)) {b69:Nat} (q69:K b69=some (.cells #[vi 0] 3)):gO #[Sl.v m71,vi (cX 0).2] #[Sl.v n,vi aK.2] b63 #[Sl.v n,vi aK.2] b69 b1 b0 (cq K0) F:=by unfold gO;refine ⟨rfl,?_⟩;refine H.h.new λb66 K F l q66 h=> ?_;replace H:=H.up l h;replace h71:=h71.le l;replace q63:=l _ _ q63;replace q69:=l _ _ q69;exact sG H q63 q66 q69 h71
theorem jr (H:EK K0 K F b0 b1 b2 n) {m70:Sl} (h70:RL K m70 (dia (tv 0)).1) {b63:Nat} (q63:K b63=some (.cells #[vi 4] 3)) {b69:Nat} (q69:K b69=some (.cells #[vi 0] 3)):gP #[Sl.v n,vi aK.2] #[Sl.v m70,vi (dia (tv 0)).2] b2 #[Sl.v n,vi aK.2] b63 b69 b1 b0 (cq K0) F:=by
 unfold gP;refine ⟨?_,?_⟩
 ·refine H.h.new λb66 K F l q66 h=> ?_;replace H:=H.up l h;replace h70:=h70.le l;replace q63:=l _ _ q63;replace q69:=l _ _ q69;exact sF H h70 q63 q66 q69
 ·refine H.h.run (λG hl=>bv (x:=0) (by decide) ((DV.mk h70).le hl)) λ_ K F hr l h=> ?_;replace H:=H.up l h;replace h70:=h70.le l;replace q63:=l _ _ q63;replace q69:=l _ _ q69;obtain ⟨_,rfl,hw⟩:=hr;obtain ⟨m71,rfl,h71⟩:=hw.out;refine ⟨_,rfl,?_⟩;refine ⟨H.row,?_⟩;refine ⟨H.row,?_⟩;exact jq H h71 q63 q69
theorem BB (H:EK K0 K F b0 b1 b2 n) {b63:Nat} (q63:K b63=some (.cells #[vi 4] 3)) {b69:Nat} (q69:K b69=some (.cells #[vi 0] 3)):qV #[Sl.v n,vi aK.2] b2 #[Sl.v n,vi aK.2] b63 b69 b1 b0 (cq K0) F:=by
 unfold qV;refine ⟨?_,?_⟩
 ·refine H.h.new λb66 K F l q66 h=> ?_;replace H:=H.up l h;replace q63:=l _ _ q63;replace q69:=l _ _ q69;exact sE H q63 q66 q69
 ·refine H.h.run (λG _=>aM 0 (by decide) G) λ_ K F hr l h=> ?_;replace H:=H.up l h;replace q63:=l _ _ q63;replace q69:=l _ _ q69;obtain ⟨_,rfl,hw⟩:=hr;obtain ⟨m70,rfl,h70⟩:=hw.out;refine ⟨_,rfl,?_⟩;refine ⟨H.row,?_⟩;refine ⟨H.row,?_⟩;exact jr H h70 q63 q69
theorem sH (H:EK K0 K F b0 b1 b2 n) {m70:Sl} (h70:RL K m70 (dia (tv 0)).1) {b63:Nat} (q63:K b63=some (.cells #[vi 4] 3)) {b66:Nat} (q66:K b66=some (.cells #[vi 1] 3)):lO #[Sl.v n,vi aK.2] #[Sl.v m70,vi (dia (tv 0)).2] b2 #[Sl.v n,vi aK.2] b63 b66 b1 b0 (cq K0) F:=by
 unfold lO;refine ⟨rfl,?_⟩;refine ⟨?_,?_⟩
 ·refine H.h.new λb69 K F l q69 h=> ?_;replace H:=H.up l h;replace h70:=h70.le l;replace q63:=l _ _ q63;replace q66:=l _ _ q66;exact gA H h70 q63 q66 q69
 ·refine H.h.run (λG hl=>bv (x:=0) (by decide) ((DV.mk h70).le hl)) λ_ K F hr l h=> ?_;replace H:=H.up l h;replace h70:=h70.le l;replace q63:=l _ _ q63;replace q66:=l _ _ q66;obtain ⟨_,rfl,hw⟩:=hr;obtain ⟨m71,rfl,h71⟩:=hw.out;refine ⟨_,rfl,?_⟩;refine ⟨H.row,?_⟩;refine ⟨H.row,?_⟩;exact pQ H h71 q63 q66
theorem sI (H:EK K0 K F b0 b1 b2 n) {m71:Sl} (h71:RL K m71 (cX 0).1) {b63:Nat} (q63:K b63=some (.cells #[vi 4] 3)) {b66:Nat} (q66:K b66=some (.cells #[vi 1] 3)):lP #[Sl.v n,vi aK.2] #[Sl.v m71,vi (cX 0).2] b63 #[Sl.v n,vi aK.2] b66 b1 b0 (cq K0) F:=by unfold lP;refine ⟨rfl,?_⟩;refine H.h.new λb69 K F l q69 h=> ?_;replace H:=H.up l h;replace h71:=h71.le l;replace q63:=l _ _ q63;replace q66:=l _ _ q66;exact gz H h71 q63 q66 q69
theorem sJ (H:EK K0 K F b0 b1 b2 n) {m71:Sl} (h71:RL K m71 (cX 0).1) {b63:Nat} (q63:K b63=some (.cells #[vi 4] 3)):lQ #[Sl.v n,vi aK.2] #[Sl.v m71,vi (cX 0).2] b63 #[Sl.v n,vi aK.2] b1 b0 (cq K0) F:=by
 unfold lQ;refine ⟨?_,?_⟩
 ·refine H.h.new λb66 K F l q66 h=> ?_;replace H:=H.up l h;replace h71:=h71.le l;replace q63:=l _ _ q63;exact sI H h71 q63 q66
 ·refine H.h.new λb69 K F l q69 h=> ?_;replace H:=H.up l h;replace h71:=h71.le l;replace q63:=l _ _ q63;exact jq H h71 q63 q69
theorem BC (H:EK K0 K F b0 b1 b2 n) {m70:Sl} (h70:RL K m70 (dia (tv 0)).1) {b63:Nat} (q63:K b63=some (.cells #[vi 4] 3)):qW #[Sl.v n,vi aK.2] #[Sl.v m70,vi (dia (tv 0)).2] b2 #[Sl.v n,vi aK.2] b63 b1 b0 (cq K0) F:=by
 unfold qW;refine ⟨?_,?_,?_⟩
 ·refine H.h.new λb66 K F l q66 h=> ?_;replace H:=H.up l h;replace h70:=h70.le l;replace q63:=l _ _ q63;exact sH H h70 q63 q66
 ·refine H.h.new λb69 K F l q69 h=> ?_;replace H:=H.up l h;replace h70:=h70.le l;replace q63:=l _ _ q63;exact jr H h70 q63 q69
 ·refine H.h.run (λG hl=>bv (x:=0) (by decide) ((DV.mk h70).le hl)) λ_ K F hr l h=> ?_;replace H:=H.up l h;replace h70:=h70.le l;replace q63:=l _ _ q63;obtain ⟨_,rfl,hw⟩:=hr;obtain ⟨m71,rfl,h71⟩:=hw.out;refine ⟨_,rfl,?_⟩;refine ⟨H.row,?_⟩;refine ⟨H.row,?_⟩;exact sJ H h71 q63
theorem C3 (H:EK K0 K F b0 b1 b2 n) {b63:Nat} (q63:K b63=some (.cells #[vi 4] 3)):u7 #[Sl.v n,vi aK.2] #[Sl.v n,vi aK.2] b2 b63 b1 b0 (cq K0) F:=by
 unfold u7;refine ⟨rfl,?_⟩;refine ⟨?_,?_,?_⟩
 ·refine H.h.new λb66 K F l q66 h=> ?_;replace H:=H.up l h;replace q63:=l _ _ q63;exact C2 H q63 q66
 ·refine H.h.new λb69 K F l q69 h=> ?_;replace H:=H.up l h;replace q63:=l _ _ q63;exact BB H q63 q69
 ·refine H.h.run (λG _=>aM 0 (by decide) G) λ_ K F hr l h=> ?_;replace H:=H.up l h;replace q63:=l _ _ q63;obtain ⟨_,rfl,hw⟩:=hr;obtain ⟨m70,rfl,h70⟩:=hw.out;refine ⟨_,rfl,?_⟩;refine ⟨H.row,?_⟩;refine ⟨H.row,?_⟩;exact BC H h70 q63
theorem BE (H:EK K0 K F b0 b1 b2 n) {b63:Nat} (q63:K b63=some (.cells #[vi 4] 3)) {b66:Nat} (q66:K b66=some (.cells #[vi 1] 3)):qX #[Sl.v n,vi aK.2] b2 #[Sl.v n,vi aK.2] b63 b66 b1 b0 (cq K0) F:=by
 unfold qX;refine ⟨rfl,?_⟩;refine ⟨?_,?_⟩
 ·refine H.h.new λb69 K F l q69 h=> ?_;replace H:=H.up l h;replace q63:=l _ _ q63;replace q66:=l _ _ q66;exact v8 H q63 q66 q69
 ·refine H.h.run (λG _=>aM 0 (by decide) G) λ_ K F hr l h=> ?_;replace H:=H.up l h;replace q63:=l _ _ q63;replace q66:=l _ _ q66;obtain ⟨_,rfl,hw⟩:=hr;obtain ⟨m70,rfl,h70⟩:=hw.out;refine ⟨_,rfl,?_⟩;refine ⟨H.row,?_⟩;refine ⟨H.row,?_⟩;exact wa H h70 q63 q66
theorem sK (H:EK K0 K F b0 b1 b2 n) {b63:Nat} (q63:K b63=some (.cells #[vi 4] 3)) {b66:Nat} (q66:K b66=some (.cells #[vi 1] 3)) {b69:Nat} (q69:K b69=some (.cells #[vi 0] 3)):lR #[Sl.v n,vi aK.2] b2 #[Sl.v n,vi aK.2] b63 b66 b69 b1 b0 (cq K0) F:=by unfold lR;refine ⟨rfl,?_⟩;refine H.h.run (λG _=>aM 0 (by decide) G) λ_ K F hr l h=> ?_;replace H:=H.up l h;replace q63:=l _ _ q63;replace q66:=l _ _ q66;replace q69:=l _ _ q69;obtain ⟨_,rfl,hw⟩:=hr;obtain ⟨m70,rfl,h70⟩:=hw.out;refine ⟨_,rfl,?_⟩;refine ⟨H.row,?_⟩;refine ⟨H.row,?_⟩;exact gA H h70 q63 q66 q69
theorem sL (H:EK K0 K F b0 b1 b2 n) {m70:Sl} (h70:RL K m70 (dia (tv 0)).1) {b63:Nat} (q63:K b63=some (.cells #[vi 4] 3)) {b66:Nat} (q66:K b66=some (.cells #[vi 1] 3)) {b69:Nat} (q69:K b69=some (.cells #[vi 0] 3)):lS #[Sl.v n,vi aK.2] #[Sl.v m70,vi (dia (tv 0)).2] b2 #[Sl.v n,vi aK.2] b63 b66 b69 b1 b0 (cq K0) F:=by unfold lS;refine ⟨rfl,?_⟩;refine H.h.run (λG hl=>bv (x:=0) (by decide) ((DV.mk h70).le hl)) λ_ K F hr l h=> ?_;replace H:=H.up l h;replace h70:=h70.le l;replace q63:=l _ _ q63;replace q66:=l _ _ q66;replace q69:=l _ _ q69;obtain ⟨_,rfl,hw⟩:=hr;obtain ⟨m71,rfl,h71⟩:=hw.out;refine ⟨_,rfl,?_⟩;refine ⟨H.row,?_⟩;refine ⟨H.row,?_⟩;exact gz H h71 q63 q66 q69
theorem sM (H:EK K0 K F b0 b1 b2 n) {b63:Nat} (q63:K b63=some (.cells #[vi 4] 3)) {b66:Nat} (q66:K b66=some (.cells #[vi 1] 3)) {b69:Nat} (q69:K b69=some (.cells #[vi 0] 3)) {m71:Sl} (h71:RL K m71 (cX 0).1):lT #[Sl.v n,vi aK.2] b63 b66 #[Sl.v n,vi aK.2] b69 #[Sl.v m71,vi (cX 0).2] b1 b0 (cq K0) F:=by unfold lT;refine ⟨rfl,?_⟩;refine ⟨rfl,?_⟩;refine ⟨rfl,?_⟩;refine ⟨rfl,?_⟩;refine H.h.new λb73 K F l q73 h=> ?_;replace H:=H.up l h;replace q63:=l _ _ q63;replace q66:=l _ _ q66;replace q69:=l _ _ q69;replace h71:=h71.le l;exact Kt H ⟨[_,_,_],.cons (fu (eJ q63) H.n) (.cons (fu (eJ q66) H.n) (.cons (fu (eJ q69) h71) .nil)),RdS.new q73 (by kernel_rfl) rfl (Tj _)⟩
theorem js (H:EK K0 K F b0 b1 b2 n) {m71:Sl} (h71:RL K m71 (cX 0).1) {b66:Nat} (q66:K b66=some (.cells #[vi 1] 3)) {b69:Nat} (q69:K b69=some (.cells #[vi 0] 3)):gQ #[Sl.v m71,vi (cX 0).2] #[Sl.v n,vi aK.2] b66 #[Sl.v n,vi aK.2] b69 b1 b0 (cq K0) F:=by unfold gQ;refine ⟨rfl,?_⟩;refine H.h.new λb63 K F l q63 h=> ?_;replace H:=H.up l h;replace h71:=h71.le l;replace q66:=l _ _ q66;replace q69:=l _ _ q69;exact sM H q63 q66 q69 h71
theorem jt (H:EK K0 K F b0 b1 b2 n) {m70:Sl} (h70:RL K m70 (dia (tv 0)).1) {b66:Nat} (q66:K b66=some (.cells #[vi 1] 3)) {b69:Nat} (q69:K b69=some (.cells #[vi 0] 3)):gR #[Sl.v n,vi aK.2] #[Sl.v m70,vi (dia (tv 0)).2] b2 #[Sl.v n,vi aK.2] b66 b69 b1 b0 (cq K0) F:=by
 unfold gR;refine ⟨?_,?_⟩
 ·refine H.h.new λb63 K F l q63 h=> ?_;replace H:=H.up l h;replace h70:=h70.le l;replace q66:=l _ _ q66;replace q69:=l _ _ q69;exact sL H h70 q63 q66 q69
 ·refine H.h.run (λG hl=>bv (x:=0) (by decide) ((DV.mk h70).le hl)) λ_ K F hr l h=> ?_;replace H:=H.up l h;replace h70:=h70.le l;replace q66:=l _ _ q66;replace q69:=l _ _ q69;obtain ⟨_,rfl,hw⟩:=hr;obtain ⟨m71,rfl,h71⟩:=hw.out;refine ⟨_,rfl,?_⟩;refine ⟨H.row,?_⟩;refine ⟨H.row,?_⟩;exact js H h71 q66 q69
theorem BF (H:EK K0 K F b0 b1 b2 n) {b66:Nat} (q66:K b66=some (.cells #[vi 1] 3)) {b69:Nat} (q69:K b69=some (.cells #[vi 0] 3)):qY #[Sl.v n,vi aK.2] b2 #[Sl.v n,vi aK.2] b66 b69 b1 b0 (cq K0) F:=by
 unfold qY;refine ⟨?_,?_⟩
 ·refine H.h.new λb63 K F l q63 h=> ?_;replace H:=H.up l h;replace q66:=l _ _ q66;replace q69:=l _ _ q69;exact sK H q63 q66 q69
 ·refine H.h.run (λG _=>aM 0 (by decide) G) λ_ K F hr l h=> ?_;replace H:=H.up l h;replace q66:=l _ _ q66;replace q69:=l _ _ q69;obtain ⟨_,rfl,hw⟩:=hr;obtain ⟨m70,rfl,h70⟩:=hw.out;refine ⟨_,rfl,?_⟩;refine ⟨H.row,?_⟩;refine ⟨H.row,?_⟩;exact jt H h70 q66 q69
theorem sN (H:EK K0 K F b0 b1 b2 n) {m70:Sl} (h70:RL K m70 (dia (tv 0)).1) {b63:Nat} (q63:K b63=some (.cells #[vi 4] 3)) {b66:Nat} (q66:K b66=some (.cells #[vi 1] 3)):lU #[Sl.v n,vi aK.2] #[Sl.v m70,vi (dia (tv 0)).2] b2 #[Sl.v n,vi aK.2] b63 b66 b1 b0 (cq K0) F:=by
 unfold lU;refine ⟨rfl,?_⟩;refine ⟨?_,?_⟩
 ·refine H.h.new λb69 K F l q69 h=> ?_;replace H:=H.up l h;replace h70:=h70.le l;replace q63:=l _ _ q63;replace q66:=l _ _ q66;exact gA H h70 q63 q66 q69
 ·refine H.h.run (λG hl=>bv (x:=0) (by decide) ((DV.mk h70).le hl)) λ_ K F hr l h=> ?_;replace H:=H.up l h;replace h70:=h70.le l;replace q63:=l _ _ q63;replace q66:=l _ _ q66;obtain ⟨_,rfl,hw⟩:=hr;obtain ⟨m71,rfl,h71⟩:=hw.out;refine ⟨_,rfl,?_⟩;refine ⟨H.row,?_⟩;refine ⟨H.row,?_⟩;exact pQ H h71 q63 q66
theorem sO (H:EK K0 K F b0 b1 b2 n) {m71:Sl} (h71:RL K m71 (cX 0).1) {b63:Nat} (q63:K b63=some (.cells #[vi 4] 3)) {b66:Nat} (q66:K b66=some (.cells #[vi 1] 3)):lV #[Sl.v n,vi aK.2] #[Sl.v m71,vi (cX 0).2] b63 b66 #[Sl.v n,vi aK.2] b1 b0 (cq K0) F:=by unfold lV;refine ⟨rfl,?_⟩;refine H.h.new λb69 K F l q69 h=> ?_;replace H:=H.up l h;replace h71:=h71.le l;replace q63:=l _ _ q63;replace q66:=l _ _ q66;exact gz H h71 q63 q66 q69
theorem sP (H:EK K0 K F b0 b1 b2 n) {m71:Sl} (h71:RL K m71 (cX 0).1) {b66:Nat} (q66:K b66=some (.cells #[vi 1] 3)):lW #[Sl.v n,vi aK.2] #[Sl.v m71,vi (cX 0).2] b66 #[Sl.v n,vi aK.2] b1 b0 (cq K0) F:=by
 unfold lW;refine ⟨?_,?_⟩
 ·refine H.h.new λb63 K F l q63 h=> ?_;replace H:=H.up l h;replace h71:=h71.le l;replace q66:=l _ _ q66;exact sO H h71 q63 q66
 ·refine H.h.new λb69 K F l q69 h=> ?_;replace H:=H.up l h;replace h71:=h71.le l;replace q66:=l _ _ q66;exact js H h71 q66 q69
theorem BG (H:EK K0 K F b0 b1 b2 n) {m70:Sl} (h70:RL K m70 (dia (tv 0)).1) {b66:Nat} (q66:K b66=some (.cells #[vi 1] 3)):qZ #[Sl.v n,vi aK.2] #[Sl.v m70,vi (dia (tv 0)).2] b2 #[Sl.v n,vi aK.2] b66 b1 b0 (cq K0) F:=by
 unfold qZ;refine ⟨?_,?_,?_⟩
 ·refine H.h.new λb63 K F l q63 h=> ?_;replace H:=H.up l h;replace h70:=h70.le l;replace q66:=l _ _ q66;exact sN H h70 q63 q66
 ·refine H.h.new λb69 K F l q69 h=> ?_;replace H:=H.up l h;replace h70:=h70.le l;replace q66:=l _ _ q66;exact jt H h70 q66 q69
 ·refine H.h.run (λG hl=>bv (x:=0) (by decide) ((DV.mk h70).le hl)) λ_ K F hr l h=> ?_;replace H:=H.up l h;replace h70:=h70.le l;replace q66:=l _ _ q66;obtain ⟨_,rfl,hw⟩:=hr;obtain ⟨m71,rfl,h71⟩:=hw.out;refine ⟨_,rfl,?_⟩;refine ⟨H.row,?_⟩;refine ⟨H.row,?_⟩;exact sP H h71 q66
theorem BH (H:EK K0 K F b0 b1 b2 n) {b66:Nat} (q66:K b66=some (.cells #[vi 1] 3)):q0 #[Sl.v n,vi aK.2] #[Sl.v n,vi aK.2] b2 b66 b1 b0 (cq K0) F:=by
 unfold q0;refine ⟨rfl,?_⟩;refine ⟨?_,?_,?_⟩
 ·refine H.h.new λb63 K F l q63 h=> ?_;replace H:=H.up l h;replace q66:=l _ _ q66;exact BE H q63 q66
 ·refine H.h.new λb69 K F l q69 h=> ?_;replace H:=H.up l h;replace q66:=l _ _ q66;exact BF H q66 q69
 ·refine H.h.run (λG _=>aM 0 (by decide) G) λ_ K F hr l h=> ?_;replace H:=H.up l h;replace q66:=l _ _ q66;obtain ⟨_,rfl,hw⟩:=hr;obtain ⟨m70,rfl,h70⟩:=hw.out;refine ⟨_,rfl,?_⟩;refine ⟨H.row,?_⟩;refine ⟨H.row,?_⟩;exact BG H h70 q66
theorem BI (H:EK K0 K F b0 b1 b2 n) {b63:Nat} (q63:K b63=some (.cells #[vi 4] 3)) {b69:Nat} (q69:K b69=some (.cells #[vi 0] 3)):ra #[Sl.v n,vi aK.2] #[Sl.v n,vi aK.2] b2 b63 b69 b1 b0 (cq K0) F:=by
 unfold ra;refine ⟨rfl,?_⟩;refine ⟨?_,?_⟩
 ·refine H.h.new λb66 K F l q66 h=> ?_;replace H:=H.up l h;replace q63:=l _ _ q63;replace q69:=l _ _ q69;exact sE H q63 q66 q69
 ·refine H.h.run (λG _=>aM 0 (by decide) G) λ_ K F hr l h=> ?_;replace H:=H.up l h;replace q63:=l _ _ q63;replace q69:=l _ _ q69;obtain ⟨_,rfl,hw⟩:=hr;obtain ⟨m70,rfl,h70⟩:=hw.out;refine ⟨_,rfl,?_⟩;refine ⟨H.row,?_⟩;refine ⟨H.row,?_⟩;exact jr H h70 q63 q69
theorem BJ (H:EK K0 K F b0 b1 b2 n) {b66:Nat} (q66:K b66=some (.cells #[vi 1] 3)) {b69:Nat} (q69:K b69=some (.cells #[vi 0] 3)):rb #[Sl.v n,vi aK.2] #[Sl.v n,vi aK.2] b2 b66 b69 b1 b0 (cq K0) F:=by
 unfold rb;refine ⟨rfl,?_⟩;refine ⟨?_,?_⟩
 ·refine H.h.new λb63 K F l q63 h=> ?_;replace H:=H.up l h;replace q66:=l _ _ q66;replace q69:=l _ _ q69;exact sK H q63 q66 q69
 ·refine H.h.run (λG _=>aM 0 (by decide) G) λ_ K F hr l h=> ?_;replace H:=H.up l h;replace q66:=l _ _ q66;replace q69:=l _ _ q69;obtain ⟨_,rfl,hw⟩:=hr;obtain ⟨m70,rfl,h70⟩:=hw.out;refine ⟨_,rfl,?_⟩;refine ⟨H.row,?_⟩;refine ⟨H.row,?_⟩;exact jt H h70 q66 q69
theorem BK (H:EK K0 K F b0 b1 b2 n) {m70:Sl} (h70:RL K m70 (dia (tv 0)).1) {b63:Nat} (q63:K b63=some (.cells #[vi 4] 3)) {b69:Nat} (q69:K b69=some (.cells #[vi 0] 3)):rc #[Sl.v n,vi aK.2] #[Sl.v n,vi aK.2] #[Sl.v m70,vi (dia (tv 0)).2] b2 b63 b69 b1 b0 (cq K0) F:=by
 unfold rc;refine ⟨rfl,?_⟩;refine ⟨?_,?_⟩
 ·refine H.h.new λb66 K F l q66 h=> ?_;replace H:=H.up l h;replace h70:=h70.le l;replace q63:=l _ _ q63;replace q69:=l _ _ q69;exact sF H h70 q63 q66 q69
 ·refine H.h.run (λG hl=>bv (x:=0) (by decide) ((DV.mk h70).le hl)) λ_ K F hr l h=> ?_;replace H:=H.up l h;replace h70:=h70.le l;replace q63:=l _ _ q63;replace q69:=l _ _ q69;obtain ⟨_,rfl,hw⟩:=hr;obtain ⟨m71,rfl,h71⟩:=hw.out;refine ⟨_,rfl,?_⟩;refine ⟨H.row,?_⟩;refine ⟨H.row,?_⟩;exact jq H h71 q63 q69
theorem BL (H:EK K0 K F b0 b1 b2 n) {m70:Sl} (h70:RL K m70 (dia (tv 0)).1) {b66:Nat} (q66:K b66=some (.cells #[vi 1] 3)) {b69:Nat} (q69:K b69=some (.cells #[vi 0] 3)):rg #[Sl.v n,vi aK.2] #[Sl.v n,vi aK.2] #[Sl.v m70,vi (dia (tv 0)).2] b2 b66 b69 b1 b0 (cq K0) F:=by
 unfold rg;refine ⟨rfl,?_⟩;refine ⟨?_,?_⟩
 ·refine H.h.new λb63 K F l q63 h=> ?_;replace H:=H.up l h;replace h70:=h70.le l;replace q66:=l _ _ q66;replace q69:=l _ _ q69;exact sL H h70 q63 q66 q69
 ·refine H.h.run (λG hl=>bv (x:=0) (by decide) ((DV.mk h70).le hl)) λ_ K F hr l h=> ?_;replace H:=H.up l h;replace h70:=h70.le l;replace q66:=l _ _ q66;replace q69:=l _ _ q69;obtain ⟨_,rfl,hw⟩:=hr;obtain ⟨m71,rfl,h71⟩:=hw.out;refine ⟨_,rfl,?_⟩;refine ⟨H.row,?_⟩;refine ⟨H.row,?_⟩;exact js H h71 q66 q69
theorem BM (H:EK K0 K F b0 b1 b2 n) {b63:Nat} (q63:K b63=some (.cells #[vi 4] 3)) {b69:Nat} (q69:K b69=some (.cells #[vi 0] 3)) {m71:Sl} (h71:RL K m71 (cX 0).1):ri #[Sl.v n,vi aK.2] #[Sl.v n,vi aK.2] b63 b69 #[Sl.v m71,vi (cX 0).2] b1 b0 (cq K0) F:=by unfold ri;refine ⟨rfl,?_⟩;refine H.h.new λb66 K F l q66 h=> ?_;replace H:=H.up l h;replace q63:=l _ _ q63;replace q69:=l _ _ q69;replace h71:=h71.le l;exact sG H q63 q66 q69 h71
theorem BN (H:EK K0 K F b0 b1 b2 n) {b66:Nat} (q66:K b66=some (.cells #[vi 1] 3)) {b69:Nat} (q69:K b69=some (.cells #[vi 0] 3)) {m71:Sl} (h71:RL K m71 (cX 0).1):rj #[Sl.v n,vi aK.2] #[Sl.v n,vi aK.2] b66 b69 #[Sl.v m71,vi (cX 0).2] b1 b0 (cq K0) F:=by unfold rj;refine ⟨rfl,?_⟩;refine H.h.new λb63 K F l q63 h=> ?_;replace H:=H.up l h;replace q66:=l _ _ q66;replace q69:=l _ _ q69;replace h71:=h71.le l;exact sM H q63 q66 q69 h71
theorem sQ (H:EK K0 K F b0 b1 b2 n) {m71:Sl} (h71:RL K m71 (cX 0).1) {b69:Nat} (q69:K b69=some (.cells #[vi 0] 3)):lX #[Sl.v m71,vi (cX 0).2] #[Sl.v n,vi aK.2] #[Sl.v n,vi aK.2] b69 b1 b0 (cq K0) F:=by
 unfold lX;refine ⟨rfl,?_⟩;refine ⟨?_,?_⟩
 ·refine H.h.new λb63 K F l q63 h=> ?_;replace H:=H.up l h;replace h71:=h71.le l;replace q69:=l _ _ q69;exact BM H q63 q69 h71
 ·refine H.h.new λb66 K F l q66 h=> ?_;replace H:=H.up l h;replace h71:=h71.le l;replace q69:=l _ _ q69;exact BN H q66 q69 h71
theorem sR (H:EK K0 K F b0 b1 b2 n) {m70:Sl} (h70:RL K m70 (dia (tv 0)).1) {b69:Nat} (q69:K b69=some (.cells #[vi 0] 3)):lY #[Sl.v n,vi aK.2] #[Sl.v n,vi aK.2] #[Sl.v m70,vi (dia (tv 0)).2] b2 b69 b1 b0 (cq K0) F:=by
 unfold lY;refine ⟨?_,?_,?_⟩
 ·refine H.h.new λb63 K F l q63 h=> ?_;replace H:=H.up l h;replace h70:=h70.le l;replace q69:=l _ _ q69;exact BK H h70 q63 q69
 ·refine H.h.new λb66 K F l q66 h=> ?_;replace H:=H.up l h;replace h70:=h70.le l;replace q69:=l _ _ q69;exact BL H h70 q66 q69
 ·refine H.h.run (λG hl=>bv (x:=0) (by decide) ((DV.mk h70).le hl)) λ_ K F hr l h=> ?_;replace H:=H.up l h;replace h70:=h70.le l;replace q69:=l _ _ q69;obtain ⟨_,rfl,hw⟩:=hr;obtain ⟨m71,rfl,h71⟩:=hw.out;refine ⟨_,rfl,?_⟩;refine ⟨H.row,?_⟩;refine ⟨H.row,?_⟩;exact sQ H h71 q69
theorem BO (H:EK K0 K F b0 b1 b2 n) {b69:Nat} (q69:K b69=some (.cells #[vi 0] 3)):rk #[Sl.v n,vi aK.2] #[Sl.v n,vi aK.2] b2 b69 b1 b0 (cq K0) F:=by
 unfold rk;refine ⟨?_,?_,?_⟩
 ·refine H.h.new λb63 K F l q63 h=> ?_;replace H:=H.up l h;replace q69:=l _ _ q69;exact BI H q63 q69
 ·refine H.h.new λb66 K F l q66 h=> ?_;replace H:=H.up l h;replace q69:=l _ _ q69;exact BJ H q66 q69
 ·refine H.h.run (λG _=>aM 0 (by decide) G) λ_ K F hr l h=> ?_;replace H:=H.up l h;replace q69:=l _ _ q69;obtain ⟨_,rfl,hw⟩:=hr;obtain ⟨m70,rfl,h70⟩:=hw.out;refine ⟨_,rfl,?_⟩;refine ⟨H.row,?_⟩;refine ⟨H.row,?_⟩;exact sR H h70 q69
theorem BP (H:EK K0 K F b0 b1 b2 n) {m70:Sl} (h70:RL K m70 (dia (tv 0)).1) {b63:Nat} (q63:K b63=some (.cells #[vi 4] 3)):rm #[Sl.v n,vi aK.2] #[Sl.v n,vi aK.2] #[Sl.v m70,vi (dia (tv 0)).2] b2 b63 b1 b0 (cq K0) F:=by
 unfold rm;refine ⟨rfl,?_⟩;refine ⟨?_,?_,?_⟩
 ·refine H.h.new λb66 K F l q66 h=> ?_;replace H:=H.up l h;replace h70:=h70.le l;replace q63:=l _ _ q63;exact sH H h70 q63 q66
 ·refine H.h.new λb69 K F l q69 h=> ?_;replace H:=H.up l h;replace h70:=h70.le l;replace q63:=l _ _ q63;exact jr H h70 q63 q69
 ·refine H.h.run (λG hl=>bv (x:=0) (by decide) ((DV.mk h70).le hl)) λ_ K F hr l h=> ?_;replace H:=H.up l h;replace h70:=h70.le l;replace q63:=l _ _ q63;obtain ⟨_,rfl,hw⟩:=hr;obtain ⟨m71,rfl,h71⟩:=hw.out;refine ⟨_,rfl,?_⟩;refine ⟨H.row,?_⟩;refine ⟨H.row,?_⟩;exact sJ H h71 q63
theorem BQ (H:EK K0 K F b0 b1 b2 n) {m70:Sl} (h70:RL K m70 (dia (tv 0)).1) {b66:Nat} (q66:K b66=some (.cells #[vi 1] 3)):rn #[Sl.v n,vi aK.2] #[Sl.v n,vi aK.2] #[Sl.v m70,vi (dia (tv 0)).2] b2 b66 b1 b0 (cq K0) F:=by
 unfold rn;refine ⟨rfl,?_⟩;refine ⟨?_,?_,?_⟩
 ·refine H.h.new λb63 K F l q63 h=> ?_;replace H:=H.up l h;replace h70:=h70.le l;replace q66:=l _ _ q66;exact sN H h70 q63 q66
 ·refine H.h.new λb69 K F l q69 h=> ?_;replace H:=H.up l h;replace h70:=h70.le l;replace q66:=l _ _ q66;exact jt H h70 q66 q69
 ·refine H.h.run (λG hl=>bv (x:=0) (by decide) ((DV.mk h70).le hl)) λ_ K F hr l h=> ?_;replace H:=H.up l h;replace h70:=h70.le l;replace q66:=l _ _ q66;obtain ⟨_,rfl,hw⟩:=hr;obtain ⟨m71,rfl,h71⟩:=hw.out;refine ⟨_,rfl,?_⟩;refine ⟨H.row,?_⟩;refine ⟨H.row,?_⟩;exact sP H h71 q66
theorem BR (H:EK K0 K F b0 b1 b2 n) {m71:Sl} (h71:RL K m71 (cX 0).1) {b63:Nat} (q63:K b63=some (.cells #[vi 4] 3)):ro #[Sl.v n,vi aK.2] #[Sl.v n,vi aK.2] #[Sl.v m71,vi (cX 0).2] b63 b1 b0 (cq K0) F:=by
 unfold ro;refine ⟨rfl,?_⟩;refine ⟨?_,?_⟩
 ·refine H.h.new λb66 K F l q66 h=> ?_;replace H:=H.up l h;replace h71:=h71.le l;replace q63:=l _ _ q63;exact sI H h71 q63 q66
 ·refine H.h.new λb69 K F l q69 h=> ?_;replace H:=H.up l h;replace h71:=h71.le l;replace q63:=l _ _ q63;exact jq H h71 q63 q69
theorem BS (H:EK K0 K F b0 b1 b2 n) {m71:Sl} (h71:RL K m71 (cX 0).1) {b66:Nat} (q66:K b66=some (.cells #[vi 1] 3)):rp #[Sl.v n,vi aK.2] #[Sl.v n,vi aK.2] #[Sl.v m71,vi (cX 0).2] b66 b1 b0 (cq K0) F:=by
 unfold rp;refine ⟨rfl,?_⟩;refine ⟨?_,?_⟩
 ·refine H.h.new λb63 K F l q63 h=> ?_;replace H:=H.up l h;replace h71:=h71.le l;replace q66:=l _ _ q66;exact sO H h71 q63 q66
 ·refine H.h.new λb69 K F l q69 h=> ?_;replace H:=H.up l h;replace h71:=h71.le l;replace q66:=l _ _ q66;exact js H h71 q66 q69
theorem BT (H:EK K0 K F b0 b1 b2 n) {m71:Sl} (h71:RL K m71 (cX 0).1):rq #[Sl.v n,vi aK.2] #[Sl.v n,vi aK.2] #[Sl.v m71,vi (cX 0).2] b1 b0 (cq K0) F:=by
 unfold rq;refine ⟨?_,?_,?_⟩
 ·refine H.h.new λb63 K F l q63 h=> ?_;replace H:=H.up l h;replace h71:=h71.le l;exact BR H h71 q63
 ·refine H.h.new λb66 K F l q66 h=> ?_;replace H:=H.up l h;replace h71:=h71.le l;exact BS H h71 q66
 ·refine H.h.new λb69 K F l q69 h=> ?_;replace H:=H.up l h;replace h71:=h71.le l;exact sQ H h71 q69
theorem BU (H:EK K0 K F b0 b1 b2 n) {m70:Sl} (h70:RL K m70 (dia (tv 0)).1):rt #[Sl.v n,vi aK.2] #[Sl.v n,vi aK.2] #[Sl.v m70,vi (dia (tv 0)).2] b2 b1 b0 (cq K0) F:=by
 unfold rt;refine ⟨?_,?_,?_,?_⟩
 ·refine H.h.new λb63 K F l q63 h=> ?_;replace H:=H.up l h;replace h70:=h70.le l;exact BP H h70 q63
 ·refine H.h.new λb66 K F l q66 h=> ?_;replace H:=H.up l h;replace h70:=h70.le l;exact BQ H h70 q66
 ·refine H.h.new λb69 K F l q69 h=> ?_;replace H:=H.up l h;replace h70:=h70.le l;exact sR H h70 q69
 ·refine H.h.run (λG hl=>bv (x:=0) (by decide) ((DV.mk h70).le hl)) λ_ K F hr l h=> ?_;replace H:=H.up l h;replace h70:=h70.le l;obtain ⟨_,rfl,hw⟩:=hr;obtain ⟨m71,rfl,h71⟩:=hw.out;refine ⟨_,rfl,?_⟩;refine ⟨H.row,?_⟩;refine ⟨H.row,?_⟩;exact BT H h71
end
theorem mw (F:PH):aj prog 129 #[] F λr F'=>(∃w,r=.agg w/\GV F' w cw)/\F.le F':=by
 refine PL ?_;unfold J0;refine gB F [⟨#[69]⟩] rfl rfl λb0 b1 F1 h=> ?_;refine h.allv λb2 K1 F2 n l1 q hn h=> ?_;refine h.rule3 (d8 0) (cK 1) (d8 0) (by decide) λF2 h=> ?_;refine h.rule3 (d8 0) (cK 2) (d8 0) (by decide) λF2 h=> ?_;refine h.rule3 (cK 3) (d8 0) (cK 4) (by decide) λF2 h=> ?_;refine h.rule1 (cK 0) (by decide) λF2 h=> ?_;refine h.rule3 (d8 0) (cK 8) (d8 0) (by decide) λF2 h=> ?_;refine h.brk 2 rfl λF2 h=> ?_;refine h.cnd 4 rfl 1 (by decide) λF2 h=> ?_;refine ⟨_,rfl,ac (h.le _ _ q),_,rfl,ac (h.le _ _ q),?_⟩;have H:EK F _ _ b0 b1 b2 n:=⟨h,l1,q,hn⟩;refine ⟨?_,?_,?_,?_⟩
 ·refine H.h.new λb63 K F l q63 h=> ?_;replace H:=H.up l h;exact C3 H q63
 ·refine H.h.new λb66 K F l q66 h=> ?_;replace H:=H.up l h;exact BH H q66
 ·refine H.h.new λb69 K F l q69 h=> ?_;replace H:=H.up l h;exact BO H q69
 ·refine H.h.run (λG _=>aM 0 (by decide) G) λ_ K F hr l h=> ?_;replace H:=H.up l h;obtain ⟨_,rfl,hw⟩:=hr;obtain ⟨m70,rfl,h70⟩:=hw.out;refine ⟨_,rfl,?_⟩;refine ⟨H.row,?_⟩;refine ⟨H.row,?_⟩;exact BU H h70
noncomputable def cd (k:Nat):Gr:=if k=0 then cw else if k=1 then ca else if k=2 then cU else if k=3 then ju else if k=4 then gC else gD
theorem xK (k:Nat) (F:PH):aj prog 80 #[.int .u8 (k:Int)] F λr F'=>(∃w,r=.agg w/\GV F' w (cd (k % 6)))/\F.le F':=by
 refine Sk ?_;unfold PE;refine (St.start F).new λb F1 h=> ?_;have e:Int.tmod (k:Int) 6=((k % 6:Nat):Int):=by rw [Ub (by omega)];omega
 rw [e];have hk:k % 6<6:=Ui _ (by decide);generalize k % 6=j at*;have fin:∀{v:Value} {G F1:PH},F.le G->(∃w,v=Value.agg w/\GV G w (cd j))->St G F1 [pt b (.cells zG 37)]->∃w:Γ,v=Value.agg w/\az F1 (Addr.mk b 0 none) 9 w λF2=>∃w:Γ,w.size=9/\F2.row (Addr.mk b 0 none) w/\((∃w',Value.agg w=Value.agg w'/\GV F2 w' (cd j))/\F.le F2):=λ{v G F1} hl hv h=>by obtain ⟨w,rfl,hv⟩:=hv;exact ⟨w,rfl,h.put0 (w':=w) hv.size rfl hv.st λF2 h=>⟨w,hv.size,h.whole0,⟨w,rfl,hv.le h.le⟩,aa hl h.le⟩⟩
 refine ⟨λh0=> ?_,λh0=>⟨λh1=> ?_,λh1=>⟨λh2=> ?_,λh2=>⟨λh3=> ?_,λh3=>⟨λh4=> ?_,λh4=> ?_⟩⟩⟩⟩⟩
 ·obtain rfl:j=0:=by omega
  exact h.run (mw _) λ_ G F2 hr l h=>fin l hr h
 ·obtain rfl:j=1:=by omega
  exact h.run (oo _) λ_ G F2 hr l h=>fin l hr h
 ·obtain rfl:j=2:=by omega
  exact h.run (kL _) λ_ G F2 hr l h=>fin l hr h
 ·obtain rfl:j=3:=by omega
  exact h.run (wb _) λ_ G F2 hr l h=>fin l hr h
 ·obtain rfl:j=4:=by omega
  exact h.run (uc _) λ_ G F2 hr l h=>fin l hr h
 ·obtain rfl:j=5:=by omega
  exact h.run (ue _) λ_ G F2 hr l h=>fin l hr h
end Go.Proofs.YtcemhghkipgdiaaGreatDoor
