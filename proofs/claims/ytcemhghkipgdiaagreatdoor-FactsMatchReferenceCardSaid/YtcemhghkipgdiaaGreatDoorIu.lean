/-
  The grammars that Made begins with are valid; made grammars are. Printed by a program (mkIu.py).
-/
import Derived.Test.YtcemhghkipgdiaaGreatDoorGkoineref05
open Option renaming some->ZO,none->ZR
open Go.Obj renaming cells->ZP
open Bool renaming false->ZQ,true->ZT
open Go.Value renaming agg->ZU,bool->ZV,int->Z0,string->Z1
open Go.Addr renaming add->ZW,mk->ZX
open Int renaming toNat->ZY,tmod->Z5
open Array renaming setIfInBounds->Z6
noncomputable section
namespace Go.Proofs.YtcemhghkipgdiaaGreatDoor
open Go.IntKind (i64 u8 u64)
open Sl renaming v->ZS,nil->Z3,mk->Z4
open Go Go.Proofs.Tryz Tr
set_option maxRecDepth 10000
section
variable {F:PH}
theorem iC (i:Int) (F:PH):ν 49 #[vi i] F λr F'=>r=ZU (Sy.arr ⟨ZQ,i⟩)/\F.le F':=by refine WD ?_;unfold R8;refine (St.start F).new λb F1 h=> ?_;refine h.put0 (w':=(Sy.arr ⟨ZQ,i⟩)) rfl rfl (by simp [am]) λF2 h=> ?_;exact ⟨_,rfl,h.whole0,rfl,h.le⟩
theorem kS (i:Int) (F:PH):ν 48 #[vi i] F λr F'=>r=ZU (Sy.arr ⟨ZT,i⟩)/\F.le F':=by refine WC ?_;unfold R7;refine (St.start F).new λb F1 h=> ?_;refine h.put0 (w':=(Sy.arr ⟨ZT,i⟩)) rfl rfl (by simp [am]) λF2 h=> ?_;exact ⟨_,rfl,h.whole0,rfl,h.le⟩
theorem dM (lo hi:Int) (F:PH):ν 162 #[vi lo,vi hi] F λr F'=>r=ZU (Nd.arr ⟨1,lo,hi,0,0⟩)/\F.le F':=by refine SG ?_;unfold MW;refine (St.start F).new λb F1 h=> ?_;refine h.put0 (w':=(Nd.arr ⟨1,lo,hi,0,0⟩)) rfl rfl (by simp [am]) λF2 h=> ?_;exact ⟨_,rfl,h.whole0,rfl,h.le⟩
theorem cg (k x y:Int) (F:PH):ν 163 #[vi k,vi x,vi y] F λr F'=>r=ZU (Nd.arr ⟨k,0,0,x,y⟩)/\F.le F':=by refine SH ?_;unfold MX;refine (St.start F).new λb F1 h=> ?_;refine h.put0 (w':=(Nd.arr ⟨k,0,0,x,y⟩)) rfl rfl (by simp [am]) λF2 h=> ?_;exact ⟨_,rfl,h.whole0,rfl,h.le⟩
theorem DV.out {v:Γ} {d:Dia} (h:DV F v d):∃s,v= #[s.v,vi d.2]/\RL F s d.1:=by obtain ⟨s,h1,h2⟩:=h;exact ⟨s,h1,RL.brs.2 h2⟩
abbrev aM:Dia:=dia (ZL ZT)
abbrev lI (d:Dia) (r:Value) (F:PH):Prop:=∃w,r=ZU w/\DV F w d
theorem gf (F:PH):ν 34 #[ZV ZT] F λr F'=>lI aM r F'/\F.le F':=
 (cv ZT).mono λ_ _ ⟨w,h1,h2,h3⟩=>⟨⟨w,h1,h2⟩,h3⟩
abbrev bH (nm:ByteArray) (left:Int) (right:List Sy):Pr:=⟨nm,left,right,aM,ZQ,0,[],⟨ZQ,0,0,0,0⟩⟩
theorem ul (nm:ο) (left:Int) {s:Sl} {right:List Sy} {F:PH} (hs:RL F s right):ν 81 #[Z1 nm,vi left,s.v] F λr F'=>(∃w,r=ZU w/\Mem.rep F' (bH nm left right) w)/\F.le F':=by refine Sc ?_;unfold OV;refine (St.start F).new λb F1 h=> ?_;refine h.run (gf _) λ_ G F2 hr l h=> ?_;obtain ⟨w,rfl,hw⟩:=hr;obtain ⟨n,rfl,hn⟩:=hw.out;refine ⟨_,rfl,rfl,?_⟩;refine h.put0 (w':=(bH nm left right).arr s n Z3) rfl rfl (by simp [am,ZS]) λF2 h=> ?_;exact ⟨_,rfl,h.whole0,⟨_,rfl,s,n,Z3,rfl,(hs.le l).le h.le,hn.le h.le,.nil _⟩,aa l h.le⟩
theorem aN (v:Nat) (hv:v<=63) (F:PH):ν 85 #[vi v] F λr F'=>lI (dia (tv v)) r F'/\F.le F':=by
 refine WI ?_;unfold Sf;refine (St.start F).new λb F1 h=> ?_;refine h.run (nV (v:Int)) λ_ G F2 hr l h=> ?_;obtain ⟨w,rfl,hw⟩:=hr;have e:tV (v:Int)=(dia (tv v),0):=by unfold tV;rw [Υ (by omega)];simp
 rw [e] at hw ⊢;obtain ⟨n,rfl,hn⟩:=hw.out;refine ⟨_,_,rfl,?_⟩;refine h.new λb3 F3 h=> ?_;refine h.put0 (w':= #[n.v,vi (dia (tv v)).2]) rfl rfl (by simp [am,ZS]) λF2 h=> ?_;refine ⟨_,rfl,h.whole0,?_⟩;refine h.put1 (w':= #[n.v,vi (dia (tv v)).2]) rfl rfl (by simp [am,ZS]) λF2 h=> ?_;exact ⟨_,rfl,h.whole1,⟨_,rfl,DV.mk (hn.le h.le)⟩,aa l h.le⟩
theorem Gg {n:Nat}:∀{vs:List Γ} {k:Nat} {c:Γ},(∀d∈vs,d.size=n)->vs[k]? =ZO c->∀{off:Nat} {v:Ξ},off+v.length<=n->
  cat (vs.set k (wr c off v))=(cat vs).take (k*n+off)++v++(cat vs).drop (k*n+off+v.length)
 |[],k,c,_,hk,off,v,_=>by simp at hk
 |d::vs,0,c,hn,hk,off,v,ho=>by simp at hk;subst hk;have hd:d.size=n:=hn d (by simp);rw [List.set_cons_zero,bK,bK,Y0,X5];have hw:=dR v d.toList off (by rw [XU (xs:=d)];omega);rw [show d.toList.toArray=d by simp] at hw;have hdl:d.toList.length=d.size:=XU;rw [hw,Yb (by omega),List.drop_append_of_le_length (by omega)];simp []
 |d::vs,k+1,c,hn,hk,off,v,ho=>by
  have hd:d.toList.length=n:=by rw [XU];exact hn d (by simp)
  rw [List.set_cons_succ,bK,bK,Gg (λx hx=>hn x (by simp [hx])) (by simpa using hk) ho];have e1:(k+1)*n+off=d.toList.length+(k*n+off):=by rw [hd,Za];omega
  have e2:(k+1)*n+off+v.length=d.toList.length+(k*n+off+v.length):=by rw [hd,Za];omega
  rw [e2,e1,List.take_length_add_append,List.drop_length_add_append];simp []
theorem J4 {α:Type} (L v:List α) {o M:Nat} (h:o+v.length<=M) (hM:M<=L.length):(L.take o++v++L.drop (o+v.length)).take M=(L.take M).take o++v++(L.take M).drop (o+v.length):=by
 have t1:(L.take o++v).length=o+v.length:=by rw [XT,XX];omega
 rw [List.take_append,t1,XY (l:=L.take o++v) (by omega),List.take_take,Nat.min_eq_left (by omega),List.drop_take]
theorem St.elAt {G F:PH} {As:List (Ψ)} {s:Sl} {e n k:Nat} {vs:List Γ} {c:Γ} (h:St G F As) (i:Nat) (hi:As[i]? =ZO (own s e n (cat vs))) (hn:∀d∈vs,d.size=n) (hk:vs[k]? =ZO c) (h0:0<n):
  ∃b cur,s.ZK=ZO ⟨b,0,ZR⟩/\k<s.len/\F b=ZO (ZP cur e)/\k*n+n<=cur.size/\
   ∀off (v:Ξ),off+v.length<=n->St G (F.set b (ZP (wr cur (k*n+off) v) e)) (As.set i (own s e n (cat (vs.set k (wr c off v))))):=by
 have hkl:k<vs.length:=(XN.1 hk).1;have hlen:∀(l:List Γ),(∀d∈l,d.size=n)->(cat l).length=l.length*n:=by
  intro l;induction l with
  |nil=>intro _;simp [cat]
  |cons d l ih=>intro hd;rw [bK,XT,ih (λx hx=>hd x (by simp [hx])),XU,hd d (by simp),X4,Za,Nat.add_comm]
 have hl:=hlen vs hn;obtain ⟨ho,-⟩:=h.ownAt hi;rcases ho with ⟨rfl,hv⟩|⟨b,cur,h1,h2,h3,h4,h5,h6⟩
 ·rw [hv] at hl;have h:=Nat.mul_pos (show 0<vs.length by omega) h0;simp at hl;omega
 ·have e1:s.len=vs.length:=by rw [hl] at h5;exact (Nat.eq_of_mul_eq_mul_right h0 h5).symm
  have hkn:k*n+n<=s.len*n:=by rw [<- Za];exact YV _ (by omega)
  have hcs:s.len*n<=cur.size:=by rw [h3];exact YV _ h4
  refine ⟨b,cur,h1,by omega,h2,by omega,λoff v hv=> ?_⟩;obtain ⟨H,a1,a2,a3,a4⟩:=h.set (A':=own s e n (cat (vs.set k (wr c off v)))) hi;have hHb:H b≠ZR:=by
   rcases a1 with ⟨rfl,_⟩|⟨b',cur',g1,g2,_⟩
   ·cases h1
   ·rw [h1] at g1;cases g1;rw [g2];simp
  have hall:∀d∈vs.set k (wr c off v),d.size=n:=by
   intro d hd;rcases List.mem_or_eq_of_mem_set hd with hd|rfl
   ·exact hn d hd
   ·rw [ee];exact hn c (XQ hk)
  refine a4 (PH.set (λ_=>ZR) b (ZP (wr cur (k*n+off) v) e)) _ (.inr ⟨b,_,h1,au _ _ _,by rw [ee,h3],h4,?_,?_⟩) (λx hx=> ?_) (λx p hx=> ?_) (λx p hx hx'=> ?_)
  ·rw [hlen _ hall,Zh,e1]
  ·have hw:=dR v cur.toList (k*n+off) (by rw [XU (xs:=cur)];omega);rw [show cur.toList.toArray=cur by simp] at hw;rw [hw,Gg hn hk hv,<- h6];exact J4 _ _ (by omega) (by rw [XU (xs:=cur)];omega)
  ·by_cases ex:x=b
   ·rw [ex];exact .inl hHb
   ·rw [aB _ _ ex] at hx;exact absurd rfl hx
  ·by_cases ex:x=b
   ·rw [ex,au] at hx ⊢;exact hx
   ·rw [aB _ _ ex] at hx;cases hx
  ·have ex:x≠b:=λex=>by subst ex;exact hHb hx'
   rw [aB _ _ ex];exact hx
theorem St.elN {G F:PH} {As:List (Ψ)} {s:Sl} {e n k:Nat} {vs:List Γ} {c:Γ} (h:St G F As) (i:Nat) (hi:As[i]? =ZO (own s e n (cat vs))) (hn:∀d∈vs,d.size=n) (hk:vs[k]? =ZO c) (h0:0<n)
  {off m:Nat} {v:Γ} (hm:v.size=m) (hv:off+m<=n) (hst:∀x∈v.toList,am x) {C:Ψ} (kk:∀F',St G F' (As.set i (own s e n (cat (vs.set k (wr c off v.toList)))))->C F'):
  ∃a:Addr,s.ZK=ZO a/\0<=(k:Int)/\(k:Int)<(s.len:Int)/\aw F (ZW (ZW a (ZY (k:Int)*n)) off) m v C:=by
 obtain ⟨b,cur,h1,h2,h3,h4,h5⟩:=h.elAt i hi hn hk h0;have ea:ZW (ZW ⟨b,0,ZR⟩ (ZY (k:Int)*n)) off=⟨b,k*n+off,ZR⟩:=by simp only [aG,N5,X5]
 refine ⟨_,h1,by omega,by omega,?_⟩;rw [ea];exact ⟨hm,hst,cur,e,h3,rfl,(by show k*n+off+m<=cur.size;omega),atI (kk _ (h5 off v.toList (by rw [XU];omega)))⟩
theorem St.el1 {G F:PH} {As:List (Ψ)} {s:Sl} {e n k:Nat} {vs:List Γ} {c:Γ} (h:St G F As) (i:Nat) (hi:As[i]? =ZO (own s e n (cat vs))) (hn:∀d∈vs,d.size=n) (hk:vs[k]? =ZO c) (h0:0<n)
  {off:Nat} {v:ξ} (hv:off<n) {C:Ψ} (kk:∀F',St G F' (As.set i (own s e n (cat (vs.set k (c.setIfInBounds off v)))))->C F'):
  ∃a:Addr,s.ZK=ZO a/\0<=(k:Int)/\(k:Int)<(s.len:Int)/\sto F (ZW (ZW a (ZY (k:Int)*n)) off) v C:=by
 obtain ⟨b,cur,h1,h2,h3,h4,h5⟩:=h.elAt i hi hn hk h0;have ea:ZW (ZW ⟨b,0,ZR⟩ (ZY (k:Int)*n)) off=⟨b,k*n+off,ZR⟩:=by simp only [aG,N5,X5]
 refine ⟨_,h1,by omega,by omega,?_⟩;rw [ea];exact ⟨cur,e,h3,rfl,(by show k*n+off<cur.size;omega),atI (kk _ (h5 off [v] (by show off+1<=n;omega)))⟩
structure KF (K G F:PH) (b0 b1:Nat) (g:Gr) (c n t s sp l f:Sl) (vs:List Γ):Prop where
 k:K.le G
 st:St G F [pt b1 (ZP (g.arr c n t s sp l f) 37),own sp 55 13 (cat vs),pt b0 (ZP zG 37)]
 r:df G g.ZG vs
 c:RL G c g.ZJ
 n:RL G n g.fam.1
 t:RL G t g.ZI
 s:RL G s g.ZH
 l:RL G l g.lvs
 f:RL G f g.fils
def KS (K F:PH) (b0 b1:Nat) (g:Gr):Prop:=∃G c n t s sp l f vs,KF K G F b0 b1 g c n t s sp l f vs
section
variable {K G F:PH} {b0 b1:Nat} {g:Gr} {c n t s sp l f:Sl} {vs:List Γ}
theorem KF.up {G' F':PH} (h:KF K G F b0 b1 g c n t s sp l f vs) (hl:G.le G') (st:St G' F' [pt b1 (ZP (g.arr c n t s sp l f) 37),own sp 55 13 (cat vs),pt b0 (ZP zG 37)]):KF K G' F' b0 b1 g c n t s sp l f vs:=
 ⟨aa h.k hl,st,h.r.le hl,h.c.le hl,h.n.le hl,h.t.le hl,h.s.le hl,h.l.le hl,h.f.le hl⟩
theorem KF.sz (h:KF K G F b0 b1 g c n t s sp l f vs):∀d∈vs,d.size=13:=by
 have:∀{l:List Pr} {vs:List Γ},df G l vs->∀d∈vs,d.size=13:=by
  intro l vs h;induction h with
  |nil=>intro d hd;cases hd
  |cons h _ ih=>
   intro d hd;rcases XP.1 hd with rfl|hd
   ·exact Mem.len h
   ·exact ih d hd
 exact this h.r
theorem KF.len (h:KF K G F b0 b1 g c n t s sp l f vs):sp.len=g.ZG.length:=by obtain ⟨ho,-⟩:=h.st.ownAt (i:=1) rfl;have h1:=ho.rd.len;have h2:=h.r.cat_len;rw [h2] at h1;have:g.ZG.length*13=sp.len*13:=h1;omega
def ju (fn:FuncId) (i:Int) (x:Sy):Prop:=∀F:PH,aj prog fn #[vi i] F λr F'=>r=ZU x.arr/\F.le F'
theorem eL (i:Int):ju 49 i ⟨ZQ,i⟩:=iC i
theorem de (i:Int):ju 48 i ⟨ZT,i⟩:=kS i
theorem KF.add (h:KF K G F b0 b1 g c n t s sp l f vs) {nm:ο} {left:Int} {sx:Sl} {right:List Sy} (hx:RL G sx right) (hl:g.ZG.length<=1000) {C:Ψ}
  (k:∀F',KS K F' b0 b1 {g with ZG:=g.ZG++[bH nm left right]}->C F'):
  ν 81 #[Z1 nm,vi left,sx.v] F λv F=>∃w:Γ,v=ZU w/\F.cell (ZX b1 5 ZR)=ZO (ZS sp)/\w.size=13/\∀b,F b=ZR->atF (F.set b (ZP w 55)) λF=>
   aH prog (Builtin.append_ #[33,33] 33 #[ZS sp,ZS (Z4 (ZO (ZX b 0 ZR)) 1 1)]) F λv F=>∃s':Sl,v=ZS s'/\sto F (ZX b1 5 ZR) (ZS s') C:=by
 obtain ⟨_,_,T⟩:=OU;refine h.st.run (ul nm left hx) λ_ G' F' hr l1 st=> ?_;obtain ⟨w,rfl,hw⟩:=hr;refine ⟨w,rfl,st.ld0 rfl,Mem.len hw,st.push1 T (Mem.len hw) (Mem.st hw) (by have:=h.len;omega) λs' G'' F'' l2 st' hlen=> ?_⟩;rw [show cat vs++w.toList=cat (vs++[w]) by rw [bR,cL]] at st';refine st'.set0 (w':=Gr.arr {g with ZG:=g.ZG++[bH nm left right]} c n t s s' l f) (Z8 rfl) rfl λF3 st=>k _ ?_;have l3:=aa l1 l2;exact ⟨G'',c,n,t,s,s',l,f,_,aa h.k l3,st,(h.r.le l3).append (.cons (Mem.le l2 hw) .nil),h.c.le l3,h.n.le l3,h.t.le l3,h.s.le l3,h.l.le l3,h.f.le l3⟩
theorem KF.el1 (h:KF K G F b0 b1 g c n t s sp l f vs) {k:Nat} {p p':Pr} (hp:g.ZG[k]? =ZO p) {off:Nat} {v:ξ} (ho:off<13) (hm:∀w,Mem.rep G p w->Mem.rep G p' (w.setIfInBounds off v)) {C:Ψ}
  (kk:∀F',KS K F' b0 b1 {g with ZG:=g.ZG.set k p'}->C F'):
  ∃a:Addr,sp.ZK=ZO a/\0<=(k:Int)/\(k:Int)<(sp.len:Int)/\sto F (ZW (ZW a (ZY (k:Int)*13)) off) v C:=by
 obtain ⟨w,h1,h2,_⟩:=h.r.get hp;refine h.st.el1 1 rfl h.sz h1 (by decide) ho λF' st=>kk _ ?_;exact ⟨G,c,n,t,s,sp,l,f,_,h.k,st,h.r.set (hm w h2),h.c,h.n,h.t,h.s,h.l,h.f⟩
theorem KF.elN (h:KF K G F b0 b1 g c n t s sp l f vs) {k:Nat} {p p':Pr} (hp:g.ZG[k]? =ZO p) {off m:Nat} {v:Γ} (hs:v.size=m) (ho:off+m<=13) (hst:∀x∈v.toList,am x) (hm:∀w,Mem.rep G p w->Mem.rep G p' (wr w off v.toList)) {C:Ψ}
  (kk:∀F',KS K F' b0 b1 {g with ZG:=g.ZG.set k p'}->C F'):
  ∃a:Addr,sp.ZK=ZO a/\0<=(k:Int)/\(k:Int)<(sp.len:Int)/\aw F (ZW (ZW a (ZY (k:Int)*13)) off) m v C:=by
 obtain ⟨w,h1,h2,_⟩:=h.r.get hp;refine h.st.elN 1 rfl h.sz h1 (by decide) hs ho hst λF' st=>kk _ ?_;exact ⟨G,c,n,t,s,sp,l,f,_,h.k,st,h.r.set (hm w h2),h.c,h.n,h.t,h.s,h.l,h.f⟩
theorem KS.set1 (h:KS K F b0 b1 g) (k:Nat) {p:Pr} (p':Pr) (hp:g.ZG[k]? =ZO p) {off:Nat} {v:ξ} (ho:off<13) (hm:∀(G:PH) w,Mem.rep G p w->Mem.rep G p' (w.setIfInBounds off v)) {C:Ψ}
  (kk:∀F',KS K F' b0 b1 {g with ZG:=g.ZG.set k p'}->C F'):
  ∃sp:Sl,F.cell (ZX b1 5 ZR)=ZO (ZS sp)/\∃a:Addr,sp.ZK=ZO a/\0<=(k:Int)/\(k:Int)<(sp.len:Int)/\sto F (ZW (ZW a (ZY (k:Int)*13)) off) v C:=by
 obtain ⟨G,c,n,t,s,sp,l,f,vs,h⟩:=h;exact ⟨sp,h.st.ld0 rfl,h.el1 hp ho (hm G) kk⟩
theorem KS.setN (h:KS K F b0 b1 g) (k:Nat) {p:Pr} (p':Pr) (hp:g.ZG[k]? =ZO p) {off m:Nat} {v:Γ} (hs:v.size=m) (ho:off+m<=13) (hst:∀x∈v.toList,am x) (hm:∀(G:PH) w,Mem.rep G p w->Mem.rep G p' (wr w off v.toList)) {C:Ψ}
  (kk:∀F',KS K F' b0 b1 {g with ZG:=g.ZG.set k p'}->C F'):
  ∃sp:Sl,F.cell (ZX b1 5 ZR)=ZO (ZS sp)/\∃a:Addr,sp.ZK=ZO a/\0<=(k:Int)/\(k:Int)<(sp.len:Int)/\aw F (ZW (ZW a (ZY (k:Int)*13)) off) m v C:=by
 obtain ⟨G,c,n,t,s,sp,l,f,vs,h⟩:=h;exact ⟨sp,h.st.ld0 rfl,h.elN hp hs ho hst (hm G) kk⟩
theorem KS.brk (h:KS K F b0 b1 g) (k:Nat) {p:Pr} (hp:g.ZG[k]? =ZO p) {C:Ψ} (kk:∀F',KS K F' b0 b1 {g with ZG:=g.ZG.set k {p with brk:=ZT}}->C F'):
  ∃sp:Sl,F.cell (ZX b1 5 ZR)=ZO (ZS sp)/\∃a:Addr,sp.ZK=ZO a/\0<=(k:Int)/\(k:Int)<(sp.len:Int)/\sto F (ZW (ZW a (ZY (k:Int)*13)) 5) (ZV ZT) C:=
 h.set1 k {p with brk:=ZT} hp (by decide) (λG w ⟨r,n,l,e,h1,h2,h3⟩=>⟨r,n,l,by rw [e];rfl,h1,h2,h3⟩) kk
theorem KS.rank (h:KS K F b0 b1 g) (k:Nat) {p:Pr} (hp:g.ZG[k]? =ZO p) {x:Int} {C:Ψ} (kk:∀F',KS K F' b0 b1 {g with ZG:=g.ZG.set k {p with rank:=x}}->C F'):
  ∃sp:Sl,F.cell (ZX b1 5 ZR)=ZO (ZS sp)/\∃a:Addr,sp.ZK=ZO a/\0<=(k:Int)/\(k:Int)<(sp.len:Int)/\sto F (ZW (ZW a (ZY (k:Int)*13)) 6) (vi x) C:=
 h.set1 k {p with rank:=x} hp (by decide) (λG w ⟨r,n,l,e,h1,h2,h3⟩=>⟨r,n,l,by rw [e];rfl,h1,h2,h3⟩) kk
theorem KS.sco (h:KS K F b0 b1 g) (k:Nat) {p:Pr} (hp:g.ZG[k]? =ZO p) {x0:Bool} {x1 x2 x3 x4:Int} {C:Ψ} (kk:∀F',KS K F' b0 b1 {g with ZG:=g.ZG.set k {p with sco:=⟨x0,x1,x2,x3,x4⟩}}->C F'):
  ∃sp:Sl,F.cell (ZX b1 5 ZR)=ZO (ZS sp)/\∃a:Addr,sp.ZK=ZO a/\0<=(k:Int)/\(k:Int)<(sp.len:Int)/\aw F (ZW (ZW a (ZY (k:Int)*13)) 8) 5 #[ZV x0,vi x1,vi x2,vi x3,vi x4] C:=
 h.setN k {p with sco:=⟨x0,x1,x2,x3,x4⟩} hp rfl (by show 8+5<=13;decide) (by simp [am]) (λG w ⟨r,n,l,e,h1,h2,h3⟩=>⟨r,n,l,by rw [e];rfl,h1,h2,h3⟩) kk
theorem KS.cnd (h:KS K F b0 b1 g) (k:Nat) {p:Pr} (hp:g.ZG[k]? =ZO p) (v:Nat) (hv:v<=63) {C:Ψ} (kk:∀F',KS K F' b0 b1 {g with ZG:=g.ZG.set k {p with cond:=dia (tv v)}}->C F'):
  ∃sp:Sl,F.cell (ZX b1 5 ZR)=ZO (ZS sp)/\ν 85 #[vi v] F λr F=>∃w:Γ,r=ZU w/\F.cell (ZX b1 5 ZR)=ZO (ZS sp)/\
   ∃a:Addr,sp.ZK=ZO a/\0<=(k:Int)/\(k:Int)<(sp.len:Int)/\aw F (ZW (ZW a (ZY (k:Int)*13)) 3) 2 w C:=by
 obtain ⟨G,c,n,t,s,sp,l,f,vs,h⟩:=h;refine ⟨sp,h.st.ld0 rfl,h.st.run (aN v hv _) λ_ G' F' hr l1 st=> ?_⟩;obtain ⟨w,rfl,hw⟩:=hr;obtain ⟨m,rfl,hm⟩:=hw.out;refine ⟨_,rfl,st.ld0 rfl,(h.up l1 st).elN (p':={p with cond:=dia (tv v)}) hp rfl (by show 3+2<=13;decide) (by simp [am,ZS]) (λw ⟨r,n,l,e,h1,h2,h3⟩=>⟨r,m,l,by rw [e];rfl,h1,hm,h3⟩) kk⟩
theorem zV {F:PH} {b:Nat} {e:TypeId} {x:Cn} (q:F b=ZO (ZP x.arr e)):RL F (Z4 (ZO (ZX b 0 ZR)) 1 1) [x]:=⟨[x.arr],.cons rfl .nil,RdS.new q rfl rfl (XS _)⟩
theorem ON {F:PH} {b:Nat} {e:TypeId} {x y:Cn} (q:F b=ZO (ZP (wr (wr (#[Z0 .i64 0,.int .i64 0,.int .i64 0,.int .i64 0,.int .i64 0,.int .i64 0]:Γ) 0 x.arr.toList) 3 y.arr.toList) e)):RL F (Z4 (ZO (ZX b 0 ZR)) 2 2) [x,y]:=⟨[x.arr,y.arr],.cons rfl (.cons rfl .nil),RdS.new q rfl rfl (XS _)⟩
theorem KS.lay1 (h:KS K F b0 b1 g) (k:Nat) {p:Pr} (hp:g.ZG[k]? =ZO p) {x1 x2 x3:Int} {C:Ψ} (kk:∀F',KS K F' b0 b1 {g with ZG:=g.ZG.set k {p with lay:=[⟨x1,x2,x3⟩]}}->C F'):
  ∃sp:Sl,F.cell (ZX b1 5 ZR)=ZO (ZS sp)/\(#[vi x1,vi x2,vi x3]:Γ).size=3/\∀b,F b=ZR->atF (F.set b (ZP (#[vi x1,vi x2,vi x3]:Γ) 153)) λF=>
   ∃a:Addr,sp.ZK=ZO a/\0<=(k:Int)/\(k:Int)<(sp.len:Int)/\sto F (ZW (ZW a (ZY (k:Int)*13)) 7) (ZS (Z4 (ZO (ZX b 0 ZR)) 1 1)) C:=by
 obtain ⟨G,c,n,t,s,sp,l,f,vs,h⟩:=h;refine ⟨sp,h.st.ld0 rfl,rfl,h.st.newG λb G' F' l1 q _ st=> ?_⟩;exact (h.up l1 st).el1 (p':={p with lay:=[⟨x1,x2,x3⟩]}) hp (by decide) (λw ⟨r,n,l,e,h1,h2,h3⟩=>⟨r,n,_,by rw [e];rfl,h1,h2,zV (x:=⟨x1,x2,x3⟩) q⟩) kk
theorem KS.lay2 (h:KS K F b0 b1 g) (k:Nat) {p:Pr} (hp:g.ZG[k]? =ZO p) {x1 x2 x3 y1 y2 y3:Int} {C:Ψ} (kk:∀F',KS K F' b0 b1 {g with ZG:=g.ZG.set k {p with lay:=[⟨x1,x2,x3⟩,⟨y1,y2,y3⟩]}}->C F'):
  ∃sp:Sl,F.cell (ZX b1 5 ZR)=ZO (ZS sp)/\(#[vi x1,vi x2,vi x3]:Γ).size=3/\(#[vi y1,vi y2,vi y3]:Γ).size=3/\
   ∀b,F b=ZR->atF (F.set b (ZP (wr (wr (#[Z0 .i64 0,.int .i64 0,.int .i64 0,.int .i64 0,.int .i64 0,.int .i64 0]:Γ) 0 (#[vi x1,vi x2,vi x3]:Γ).toList) 3 (#[vi y1,vi y2,vi y3]:Γ).toList) 153)) λF=>
   ∃a:Addr,sp.ZK=ZO a/\0<=(k:Int)/\(k:Int)<(sp.len:Int)/\sto F (ZW (ZW a (ZY (k:Int)*13)) 7) (ZS (Z4 (ZO (ZX b 0 ZR)) 2 2)) C:=by
 obtain ⟨G,c,n,t,s,sp,l,f,vs,h⟩:=h;refine ⟨sp,h.st.ld0 rfl,rfl,rfl,h.st.newG λb G' F' l1 q _ st=> ?_⟩;exact (h.up l1 st).el1 (p':={p with lay:=[⟨x1,x2,x3⟩,⟨y1,y2,y3⟩]}) hp (by decide) (λw ⟨r,n,l,e,h1,h2,h3⟩=>⟨r,n,_,by rw [e];rfl,h1,h2,ON (x:=⟨x1,x2,x3⟩) (y:=⟨y1,y2,y3⟩) q⟩) kk
theorem KS.fin (h:KS K F b0 b1 g) {R:VR} (k:∀w F',GV F' w g->K.le F'->R (ZU w) F'):
  ∃v:Γ,v.size=9/\F.row (ZX b1 0 ZR) v/\aw F (ZX b0 0 ZR) 9 v λF=>∃w:Γ,w.size=9/\F.row (ZX b0 0 ZR) w/\R (ZU w) F:=by
 obtain ⟨G,c,n,t,s,sp,l,f,vs,h⟩:=h;refine ⟨_,rfl,h.st.whole0,?_⟩;refine h.st.put2 (w':=g.arr c n t s sp l f) rfl rfl (by simp [am,ZS]) λF' st=> ?_;obtain ⟨ho,-⟩:=st.ownAt (i:=1) rfl;refine ⟨_,rfl,st.whole2,k _ _ ⟨c,n,t,s,sp,l,f,rfl,h.c.le st.le,h.n.le st.le,h.t.le st.le,h.s.le st.le,⟨vs,h.r.le st.le,ho.rd⟩,h.l.le st.le,h.f.le st.le⟩ (aa h.k st.le)⟩
theorem KS.lvs (h:KS K F b0 b1 g) {sx:Sl} {x:List Lv} (hx:RL K sx x) {C:Ψ} (kk:∀F',KS K F' b0 b1 {g with lvs:=x}->C F'):sto F (ZX b1 7 ZR) (ZS sx) C:=by obtain ⟨G,c,n,t,s,sp,l,f,vs,h⟩:=h;refine h.st.set0 (w':=Gr.arr {g with lvs:=x} c n t s sp sx f) (Z8 rfl) rfl λF' st=>kk _ ?_;exact ⟨G,c,n,t,s,sp,sx,f,vs,h.k,st,h.r,h.c,h.n,h.t,h.s,hx.le h.k,h.f⟩
theorem KS.fils (h:KS K F b0 b1 g) {sx:Sl} {x:List Fi} (hx:RL K sx x) {C:Ψ} (kk:∀F',KS K F' b0 b1 {g with fils:=x}->C F'):sto F (ZX b1 8 ZR) (ZS sx) C:=by obtain ⟨G,c,n,t,s,sp,l,f,vs,h⟩:=h;refine h.st.set0 (w':=Gr.arr {g with fils:=x} c n t s sp l sx) (Z8 rfl) rfl λF' st=>kk _ ?_;exact ⟨G,c,n,t,s,sp,l,sx,vs,h.k,st,h.r,h.c,h.n,h.t,h.s,h.l,hx.le h.k⟩
theorem KS.new (h:KS K F b0 b1 g) {o:Obj} {C:Nat->Ψ} (k:∀b K' F',K.le K'->K' b=ZO o->KS K' F' b0 b1 g->C b F'):∀b,F b=ZR->atF (F.set b o) (C b):=by obtain ⟨G,c,n,t,s,sp,l,f,vs,h⟩:=h;exact h.st.newG λb G' F' l1 q _ st=>k b G' F' (aa h.k l1) q ⟨G',c,n,t,s,sp,l,f,vs,al _,st,h.r.le l1,h.c.le l1,h.n.le l1,h.t.le l1,h.s.le l1,h.l.le l1,h.f.le l1⟩
theorem KS.run (h:KS K F b0 b1 g) {fn:FuncId} {args:Γ} {P:ξ->Ψ} {Q:ξ->Ψ} (sp:∀G,K.le G->aj prog fn args G λr G'=>P r G'/\G.le G') (k:∀r K' F',P r K'->K.le K'->KS K' F' b0 b1 g->Q r F'):aj prog fn args F Q:=by obtain ⟨G,c,n,t,s,sl,l,f,vs,h⟩:=h;exact h.st.run (sp G h.k) λr G' F' hp l1 st=>k r G' F' hp (aa h.k l1) ⟨G',c,n,t,s,sl,l,f,vs,al _,st,h.r.le l1,h.c.le l1,h.n.le l1,h.t.le l1,h.s.le l1,h.l.le l1,h.f.le l1⟩
theorem KS.le (h:KS K F b0 b1 g):K.le F:=by obtain ⟨G,c,n,t,s,sp,l,f,vs,h⟩:=h;exact aa h.k h.st.le
theorem KS.rule0 (h:KS K F b0 b1 g) (hl:g.ZG.length<=1000) {nm:ο} {left:Int} {C:Ψ} (k:∀F',KS K F' b0 b1 {g with ZG:=g.ZG++[bH nm left []]}->C F'):
  ∃sp:Sl,F.cell (ZX b1 5 ZR)=ZO (ZS sp)/\∀b,F b=ZR->atF (F.set b (ZP #[] 63)) λF=>
   ν 81 #[Z1 nm,vi left,ZS (Z4 (ZO (ZX b 0 ZR)) 0 0)] F λv F=>∃w:Γ,v=ZU w/\F.cell (ZX b1 5 ZR)=ZO (ZS sp)/\w.size=13/\∀b,F b=ZR->atF (F.set b (ZP w 55)) λF=>
   aH prog (Builtin.append_ #[33,33] 33 #[ZS sp,ZS (Z4 (ZO (ZX b 0 ZR)) 1 1)]) F λv F=>∃s':Sl,v=ZS s'/\sto F (ZX b1 5 ZR) (ZS s') C:=by
 obtain ⟨G,c,n,t,s,sp,l,f,vs,h⟩:=h;refine ⟨sp,h.st.ld0 rfl,?_⟩;refine h.st.newG λb G9 F9 l9 q _ st=> ?_;exact (h.up l9 st).add ⟨[],.nil,RdS.new q (by kernel_rfl) rfl (XS _)⟩ hl k
theorem KS.rule1 (h:KS K F b0 b1 g) {f1:FuncId} {i1:Int} {x1:Sy} (s1:ju f1 i1 x1) (hl:g.ZG.length<=1000) {nm:ο} {left:Int} {C:Ψ} (k:∀F',KS K F' b0 b1 {g with ZG:=g.ZG++[bH nm left [x1]]}->C F'):
  ∃sp:Sl,F.cell (ZX b1 5 ZR)=ZO (ZS sp)/\aj prog f1 #[vi i1] F λv F=>∃v1:Γ,v=ZU v1/\F.cell (ZX b1 5 ZR)=ZO (ZS sp)/\v1.size=2/\∀b,F b=ZR->atF (F.set b (ZP v1 63)) λF=>
   ν 81 #[Z1 nm,vi left,ZS (Z4 (ZO (ZX b 0 ZR)) 1 1)] F λv F=>∃w:Γ,v=ZU w/\F.cell (ZX b1 5 ZR)=ZO (ZS sp)/\w.size=13/\∀b,F b=ZR->atF (F.set b (ZP w 55)) λF=>
   aH prog (Builtin.append_ #[33,33] 33 #[ZS sp,ZS (Z4 (ZO (ZX b 0 ZR)) 1 1)]) F λv F=>∃s':Sl,v=ZS s'/\sto F (ZX b1 5 ZR) (ZS s') C:=by
 obtain ⟨G,c,n,t,s,sp,l,f,vs,h⟩:=h;refine ⟨sp,h.st.ld0 rfl,?_⟩;refine h.st.runv (s1 _) λG1 F1 l1 st=> ?_;refine ⟨_,rfl,st.ld0 rfl,rfl,?_⟩;refine st.newG λb G9 F9 l9 q _ st=> ?_;exact (h.up (aa l1 l9) st).add ⟨[x1.arr],(.cons rfl .nil),RdS.new q (by kernel_rfl) rfl (XS _)⟩ hl k
theorem KS.rule2 (h:KS K F b0 b1 g) {f1 f2:FuncId} {i1 i2:Int} {x1 x2:Sy} (s1:ju f1 i1 x1) (s2:ju f2 i2 x2) (hl:g.ZG.length<=1000) {nm:ο} {left:Int} {C:Ψ} (k:∀F',KS K F' b0 b1 {g with ZG:=g.ZG++[bH nm left [x1,x2]]}->C F'):
  ∃sp:Sl,F.cell (ZX b1 5 ZR)=ZO (ZS sp)/\aj prog f1 #[vi i1] F λv F=>∃v1:Γ,v=ZU v1/\F.cell (ZX b1 5 ZR)=ZO (ZS sp)/\aj prog f2 #[vi i2] F λv F=>∃v2:Γ,v=ZU v2/\F.cell (ZX b1 5 ZR)=ZO (ZS sp)/\v1.size=2/\v2.size=2/\∀b,F b=ZR->atF (F.set b (ZP (wr (wr (#[ZV ZQ,Z0 .i64 0,.bool ZQ,Z0 .i64 0]:Γ) 0 v1.toList) 2 v2.toList) 63)) λF=>
   ν 81 #[Z1 nm,vi left,ZS (Z4 (ZO (ZX b 0 ZR)) 2 2)] F λv F=>∃w:Γ,v=ZU w/\F.cell (ZX b1 5 ZR)=ZO (ZS sp)/\w.size=13/\∀b,F b=ZR->atF (F.set b (ZP w 55)) λF=>
   aH prog (Builtin.append_ #[33,33] 33 #[ZS sp,ZS (Z4 (ZO (ZX b 0 ZR)) 1 1)]) F λv F=>∃s':Sl,v=ZS s'/\sto F (ZX b1 5 ZR) (ZS s') C:=by
 obtain ⟨G,c,n,t,s,sp,l,f,vs,h⟩:=h;refine ⟨sp,h.st.ld0 rfl,?_⟩;refine h.st.runv (s1 _) λG1 F1 l1 st=> ?_;refine ⟨_,rfl,st.ld0 rfl,?_⟩;refine st.runv (s2 _) λG2 F2 l2 st=> ?_;refine ⟨_,rfl,st.ld0 rfl,rfl,rfl,?_⟩;refine st.newG λb G9 F9 l9 q _ st=> ?_;exact (h.up (aa l1 (aa l2 l9)) st).add ⟨[x1.arr,x2.arr],(.cons rfl (.cons rfl .nil)),RdS.new q (by kernel_rfl) rfl (XS _)⟩ hl k
theorem KS.rule3 (h:KS K F b0 b1 g) {f1 f2 f3:FuncId} {i1 i2 i3:Int} {x1 x2 x3:Sy} (s1:ju f1 i1 x1) (s2:ju f2 i2 x2) (s3:ju f3 i3 x3) (hl:g.ZG.length<=1000) {nm:ο} {left:Int} {C:Ψ} (k:∀F',KS K F' b0 b1 {g with ZG:=g.ZG++[bH nm left [x1,x2,x3]]}->C F'):
  ∃sp:Sl,F.cell (ZX b1 5 ZR)=ZO (ZS sp)/\aj prog f1 #[vi i1] F λv F=>∃v1:Γ,v=ZU v1/\F.cell (ZX b1 5 ZR)=ZO (ZS sp)/\aj prog f2 #[vi i2] F λv F=>∃v2:Γ,v=ZU v2/\F.cell (ZX b1 5 ZR)=ZO (ZS sp)/\aj prog f3 #[vi i3] F λv F=>∃v3:Γ,v=ZU v3/\F.cell (ZX b1 5 ZR)=ZO (ZS sp)/\v1.size=2/\v2.size=2/\v3.size=2/\∀b,F b=ZR->atF (F.set b (ZP (wr (wr (wr (#[ZV ZQ,Z0 .i64 0,.bool ZQ,Z0 .i64 0,.bool ZQ,Z0 .i64 0]:Γ) 0 v1.toList) 2 v2.toList) 4 v3.toList) 63)) λF=>
   ν 81 #[Z1 nm,vi left,ZS (Z4 (ZO (ZX b 0 ZR)) 3 3)] F λv F=>∃w:Γ,v=ZU w/\F.cell (ZX b1 5 ZR)=ZO (ZS sp)/\w.size=13/\∀b,F b=ZR->atF (F.set b (ZP w 55)) λF=>
   aH prog (Builtin.append_ #[33,33] 33 #[ZS sp,ZS (Z4 (ZO (ZX b 0 ZR)) 1 1)]) F λv F=>∃s':Sl,v=ZS s'/\sto F (ZX b1 5 ZR) (ZS s') C:=by
 obtain ⟨G,c,n,t,s,sp,l,f,vs,h⟩:=h;refine ⟨sp,h.st.ld0 rfl,?_⟩;refine h.st.runv (s1 _) λG1 F1 l1 st=> ?_;refine ⟨_,rfl,st.ld0 rfl,?_⟩;refine st.runv (s2 _) λG2 F2 l2 st=> ?_;refine ⟨_,rfl,st.ld0 rfl,?_⟩;refine st.runv (s3 _) λG3 F3 l3 st=> ?_;refine ⟨_,rfl,st.ld0 rfl,rfl,rfl,rfl,?_⟩;refine st.newG λb G9 F9 l9 q _ st=> ?_;exact (h.up (aa l1 (aa l2 (aa l3 l9))) st).add ⟨[x1.arr,x2.arr,x3.arr],(.cons rfl (.cons rfl (.cons rfl .nil))),RdS.new q (by kernel_rfl) rfl (XS _)⟩ hl k
theorem KS.rule4 (h:KS K F b0 b1 g) {f1 f2 f3 f4:FuncId} {i1 i2 i3 i4:Int} {x1 x2 x3 x4:Sy} (s1:ju f1 i1 x1) (s2:ju f2 i2 x2) (s3:ju f3 i3 x3) (s4:ju f4 i4 x4) (hl:g.ZG.length<=1000) {nm:ο} {left:Int} {C:Ψ} (k:∀F',KS K F' b0 b1 {g with ZG:=g.ZG++[bH nm left [x1,x2,x3,x4]]}->C F'):
  ∃sp:Sl,F.cell (ZX b1 5 ZR)=ZO (ZS sp)/\aj prog f1 #[vi i1] F λv F=>∃v1:Γ,v=ZU v1/\F.cell (ZX b1 5 ZR)=ZO (ZS sp)/\aj prog f2 #[vi i2] F λv F=>∃v2:Γ,v=ZU v2/\F.cell (ZX b1 5 ZR)=ZO (ZS sp)/\aj prog f3 #[vi i3] F λv F=>∃v3:Γ,v=ZU v3/\F.cell (ZX b1 5 ZR)=ZO (ZS sp)/\aj prog f4 #[vi i4] F λv F=>∃v4:Γ,v=ZU v4/\F.cell (ZX b1 5 ZR)=ZO (ZS sp)/\v1.size=2/\v2.size=2/\v3.size=2/\v4.size=2/\∀b,F b=ZR->atF (F.set b (ZP (wr (wr (wr (wr (#[ZV ZQ,Z0 .i64 0,.bool ZQ,Z0 .i64 0,.bool ZQ,Z0 .i64 0,.bool ZQ,Z0 .i64 0]:Γ) 0 v1.toList) 2 v2.toList) 4 v3.toList) 6 v4.toList) 63)) λF=>
   ν 81 #[Z1 nm,vi left,ZS (Z4 (ZO (ZX b 0 ZR)) 4 4)] F λv F=>∃w:Γ,v=ZU w/\F.cell (ZX b1 5 ZR)=ZO (ZS sp)/\w.size=13/\∀b,F b=ZR->atF (F.set b (ZP w 55)) λF=>
   aH prog (Builtin.append_ #[33,33] 33 #[ZS sp,ZS (Z4 (ZO (ZX b 0 ZR)) 1 1)]) F λv F=>∃s':Sl,v=ZS s'/\sto F (ZX b1 5 ZR) (ZS s') C:=by
 obtain ⟨G,c,n,t,s,sp,l,f,vs,h⟩:=h;refine ⟨sp,h.st.ld0 rfl,?_⟩;refine h.st.runv (s1 _) λG1 F1 l1 st=> ?_;refine ⟨_,rfl,st.ld0 rfl,?_⟩;refine st.runv (s2 _) λG2 F2 l2 st=> ?_;refine ⟨_,rfl,st.ld0 rfl,?_⟩;refine st.runv (s3 _) λG3 F3 l3 st=> ?_;refine ⟨_,rfl,st.ld0 rfl,?_⟩;refine st.runv (s4 _) λG4 F4 l4 st=> ?_;refine ⟨_,rfl,st.ld0 rfl,rfl,rfl,rfl,rfl,?_⟩;refine st.newG λb G9 F9 l9 q _ st=> ?_;exact (h.up (aa l1 (aa l2 (aa l3 (aa l4 l9)))) st).add ⟨[x1.arr,x2.arr,x3.arr,x4.arr],(.cons rfl (.cons rfl (.cons rfl (.cons rfl .nil)))),RdS.new q (by kernel_rfl) rfl (XS _)⟩ hl k
theorem KS.rule5 (h:KS K F b0 b1 g) {f1 f2 f3 f4 f5:FuncId} {i1 i2 i3 i4 i5:Int} {x1 x2 x3 x4 x5:Sy} (s1:ju f1 i1 x1) (s2:ju f2 i2 x2) (s3:ju f3 i3 x3) (s4:ju f4 i4 x4) (s5:ju f5 i5 x5) (hl:g.ZG.length<=1000) {nm:ο} {left:Int} {C:Ψ} (k:∀F',KS K F' b0 b1 {g with ZG:=g.ZG++[bH nm left [x1,x2,x3,x4,x5]]}->C F'):
  ∃sp:Sl,F.cell (ZX b1 5 ZR)=ZO (ZS sp)/\aj prog f1 #[vi i1] F λv F=>∃v1:Γ,v=ZU v1/\F.cell (ZX b1 5 ZR)=ZO (ZS sp)/\aj prog f2 #[vi i2] F λv F=>∃v2:Γ,v=ZU v2/\F.cell (ZX b1 5 ZR)=ZO (ZS sp)/\aj prog f3 #[vi i3] F λv F=>∃v3:Γ,v=ZU v3/\F.cell (ZX b1 5 ZR)=ZO (ZS sp)/\aj prog f4 #[vi i4] F λv F=>∃v4:Γ,v=ZU v4/\F.cell (ZX b1 5 ZR)=ZO (ZS sp)/\aj prog f5 #[vi i5] F λv F=>∃v5:Γ,v=ZU v5/\F.cell (ZX b1 5 ZR)=ZO (ZS sp)/\v1.size=2/\v2.size=2/\v3.size=2/\v4.size=2/\v5.size=2/\∀b,F b=ZR->atF (F.set b (ZP (wr (wr (wr (wr (wr (#[ZV ZQ,Z0 .i64 0,.bool ZQ,Z0 .i64 0,.bool ZQ,Z0 .i64 0,.bool ZQ,Z0 .i64 0,.bool ZQ,Z0 .i64 0]:Γ) 0 v1.toList) 2 v2.toList) 4 v3.toList) 6 v4.toList) 8 v5.toList) 63)) λF=>
   ν 81 #[Z1 nm,vi left,ZS (Z4 (ZO (ZX b 0 ZR)) 5 5)] F λv F=>∃w:Γ,v=ZU w/\F.cell (ZX b1 5 ZR)=ZO (ZS sp)/\w.size=13/\∀b,F b=ZR->atF (F.set b (ZP w 55)) λF=>
   aH prog (Builtin.append_ #[33,33] 33 #[ZS sp,ZS (Z4 (ZO (ZX b 0 ZR)) 1 1)]) F λv F=>∃s':Sl,v=ZS s'/\sto F (ZX b1 5 ZR) (ZS s') C:=by
 obtain ⟨G,c,n,t,s,sp,l,f,vs,h⟩:=h;refine ⟨sp,h.st.ld0 rfl,?_⟩;refine h.st.runv (s1 _) λG1 F1 l1 st=> ?_;refine ⟨_,rfl,st.ld0 rfl,?_⟩;refine st.runv (s2 _) λG2 F2 l2 st=> ?_;refine ⟨_,rfl,st.ld0 rfl,?_⟩;refine st.runv (s3 _) λG3 F3 l3 st=> ?_;refine ⟨_,rfl,st.ld0 rfl,?_⟩;refine st.runv (s4 _) λG4 F4 l4 st=> ?_;refine ⟨_,rfl,st.ld0 rfl,?_⟩;refine st.runv (s5 _) λG5 F5 l5 st=> ?_;refine ⟨_,rfl,st.ld0 rfl,rfl,rfl,rfl,rfl,rfl,?_⟩;refine st.newG λb G9 F9 l9 q _ st=> ?_;exact (h.up (aa l1 (aa l2 (aa l3 (aa l4 (aa l5 l9))))) st).add ⟨[x1.arr,x2.arr,x3.arr,x4.arr,x5.arr],(.cons rfl (.cons rfl (.cons rfl (.cons rfl (.cons rfl .nil))))),RdS.new q (by kernel_rfl) rfl (XS _)⟩ hl k
end
theorem St.imp {G F:PH} {As:List (Ψ)} (h:St G F As) (i:Nat) {A A':Ψ} (hi:As[i]? =ZO A) (f:∀H,H.le F->A H->A' H):St G F (As.set i A'):=by obtain ⟨H,a1,a2,a3,a4⟩:=h.set (A':=A') hi;exact a4 H F (f H a3 a1) (λb hb=> .inl hb) a3 λb o hb _=>hb
def vJ:List ο:=[⟨#[43]⟩,⟨#[42]⟩,⟨#[40]⟩,⟨#[41]⟩,⟨#[105,102]⟩,⟨#[101,108,115,101]⟩,⟨#[59]⟩,⟨#[94]⟩]
def lJ:Tk:=⟨⟨#[105,100]⟩,0,⟨#[]⟩,[⟨1,97,122,0,0⟩,⟨1,97,122,0,0⟩,⟨4,0,0,1,0⟩,⟨2,0,0,0,2⟩],⟨#[120]⟩,aM⟩
def tkL (x:ο):Tk:=⟨x,0,x,[],⟨#[]⟩,aM⟩
def jQ:Tk:=⟨⟨#[115,112,97,99,101]⟩,1,⟨#[]⟩,[⟨1,9,10,0,0⟩,⟨1,32,32,0,0⟩,⟨3,0,0,0,1⟩,⟨1,9,10,0,0⟩,⟨1,32,32,0,0⟩,⟨3,0,0,3,4⟩,⟨4,0,0,5,0⟩,⟨2,0,0,2,6⟩],⟨#[]⟩,aM⟩
def gW:Tk:=⟨⟨#[114,101,109,97,114,107]⟩,2,⟨#[]⟩,[⟨1,37,37,0,0⟩,⟨1,97,122,0,0⟩,⟨1,32,32,0,0⟩,⟨3,0,0,1,2⟩,⟨4,0,0,3,0⟩,⟨2,0,0,0,4⟩],⟨#[]⟩,aM⟩
def dS:List Tk:=lJ::vJ.map tkL++[jQ,gW]
theorem pC {F:PH} {x:Tk} {p n:Sl} (hp:RL F p x.pat) (hn:RL F n x.cond.1):Mem.rep F x (x.arr p n):=⟨p,n,rfl,hp,hn⟩
theorem oG (F:PH):ν 111 #[] F λr F'=>(∃s,r=ZS s/\RL F' s dS)/\F.le F':=by
 obtain ⟨_,_,T⟩:=RZ;refine Sh ?_;unfold ME;refine (St.start F).run (gf _) λ_ G1 F1 hr l1 h=> ?_;obtain ⟨w,rfl,hw⟩:=hr;obtain ⟨n,rfl,hn⟩:=hw.out;refine ⟨_,rfl,?_⟩;refine h.new λb1 F2 h=> ?_;refine h.put0 (w':= #[n.v,vi aM.2]) rfl rfl (by simp [am,ZS]) λF3 h=> ?_;refine ⟨_,rfl,h.whole0,rfl,rfl,?_⟩;refine h.new λb10 F4 h=> ?_;refine h.runv (dM 97 122 _) λG2 F5 l2 h=> ?_;refine ⟨_,rfl,?_⟩;refine h.runv (dM 97 122 _) λG3 F6 l3 h=> ?_;refine ⟨_,rfl,?_⟩;refine h.runv (cg 4 1 0 _) λG4 F7 l4 h=> ?_;refine ⟨_,rfl,?_⟩;refine h.runv (cg 2 0 2 _) λG5 F8 l5 h=> ?_;refine ⟨_,rfl,rfl,rfl,rfl,rfl,?_⟩;refine h.newG λb16 G6 F9 l6 q16 _ h=> ?_;have l16:G1.le G6:=aa l2 (aa l3 (aa l4 (aa l5 l6)));have h:=h.imp (A':=own (Z4 (ZO (ZX b10 0 ZR)) 1 1) 146 7 (cat [Tk.arr ⟨⟨#[105,100]⟩,0,⟨#[]⟩,[],⟨#[120]⟩,aM⟩ Z3 n])) 0 rfl λH _ hH=> .inr ⟨b10,_,rfl,hH,rfl,XS _,rfl,rfl⟩;refine h.el1 0 rfl (by simp) (c:=Tk.arr ⟨⟨#[105,100]⟩,0,⟨#[]⟩,[],⟨#[120]⟩,aM⟩ Z3 n) (k:=0) rfl (by decide) (by decide) λF10 h=> ?_;refine h.newG λb19 G7 F11 l7 q19 _ h=> ?_;have lt:=aa l16 l7;have r0:df G7 [lJ] [lJ.arr (Z4 (ZO (ZX b16 0 ZR)) 4 4) n]:=.cons (pC ⟨[_,_,_,_],.cons rfl (.cons rfl (.cons rfl (.cons rfl .nil))),RdS.new (l7 _ _ q16) rfl rfl (XS _)⟩ (hn.le lt)) .nil;replace h:St G7 F11 [own (Z4 (ZO (ZX b10 0 ZR)) 1 1) 146 7 (cat [lJ.arr (Z4 (ZO (ZX b16 0 ZR)) 4 4) n]),pt b1 (ZP #[n.v,vi aM.2] 31)]:=h;have hl:RL G7 (Z4 (ZO (ZX b19 0 ZR)) 8 8) vJ:=RL.strs.2 (RdS.new q19 rfl rfl (XS _));have lF:F.le G7:=aa l1 lt;refine ⟨λm out i F'=>∃k:Nat,k<=8/\i=k/\m=8 - k/\out.len=k+1/\∃G vs,G7.le G/\df G (lJ::(vJ.take k).map tkL) vs/\St G F' [own out 146 7 (cat vs),pt b1 (ZP #[n.v,vi aM.2] 31)],8,⟨0,by decide,rfl,rfl,rfl,G7,_,al _,r0,h⟩,?_⟩;rintro m out i F' ⟨k,hk,rfl,rfl,hlen,G,vs,lG,hr,h⟩;unfold Ck;refine ⟨λhi=> ?_,λhi=> ?_⟩
 ·have hk8:k<8:=by have:(k:Int)<8:=hi;omega
  have hx:vJ[k]? =ZO (vJ[k]'hk8):=N6 hk8;generalize vJ[k]=x at hx;obtain ⟨a,c,ha,hrow,hc⟩:=hl.get (by decide) hx;cases hc;cases ha;have hcell:∀{F':PH},G7.le F'->F'.cell (ZW (ZX b19 0 ZR) (ZY (k:Int)*1))=ZO (Z1 x):=λhF=>aS (aT hF hrow) rfl;refine ⟨_,rfl,by omega,hi,x,hcell (aa lG h.le),_,rfl,by omega,hi,x,hcell (aa lG h.le),_,rfl,h.whole1,rfl,rfl,?_⟩;refine h.push0 T (c:=(tkL x).arr Z3 n) rfl (by simp [am,ZS]) (by omega) λs' G' F2 l' h hl'=> ?_;refine ⟨h.whole1,hcell (aa lG (aa l' h.le)),hcell (aa lG (aa l' h.le)),8 - (k+1),by omega,k+1,by omega,?_,rfl,by omega,G',vs++[(tkL x).arr Z3 n],aa lG l',?_,?_⟩
  ·exact aC (n:=8) hk8 (by decide)
  ·have e:vJ.take (k+1)=vJ.take k++[x]:=by rw [Yy,hx];rfl
   rw [e,Yd,<- YA];exact (hr.le l').append (.cons (pC (.nil _) (hn.le (aa lt (aa lG l')))) .nil)
  ·rw [bR,cL];exact h
 ·have hk8:k=8:=by have:¬(k:Int)<8:=hi;omega
  subst hk8;unfold Cj;have r9:=hr;refine h.runv (dM 9 10 _) λH1 F1 m1 h=> ?_;refine ⟨_,rfl,?_⟩;refine h.runv (dM 32 32 _) λH2 F1 m2 h=> ?_;refine ⟨_,rfl,?_⟩;refine h.runv (cg 3 0 1 _) λH3 F1 m3 h=> ?_;refine ⟨_,rfl,?_⟩;refine h.runv (dM 9 10 _) λH4 F1 m4 h=> ?_;refine ⟨_,rfl,?_⟩;refine h.runv (dM 32 32 _) λH5 F1 m5 h=> ?_;refine ⟨_,rfl,?_⟩;refine h.runv (cg 3 3 4 _) λH6 F1 m6 h=> ?_;refine ⟨_,rfl,?_⟩;refine h.runv (cg 4 5 0 _) λH7 F1 m7 h=> ?_;refine ⟨_,rfl,?_⟩;refine h.runv (cg 2 2 6 _) λH8 F1 m8 h=> ?_;refine ⟨_,rfl,rfl,rfl,rfl,rfl,rfl,rfl,rfl,rfl,?_⟩;refine h.newG λb47 H9 F1 m9 q47 _ h=> ?_;refine h.runv (dM 37 37 _) λI1 F1 n1 h=> ?_;refine ⟨_,rfl,?_⟩;refine h.runv (dM 97 122 _) λI2 F1 n2 h=> ?_;refine ⟨_,rfl,?_⟩;refine h.runv (dM 32 32 _) λI3 F1 n3 h=> ?_;refine ⟨_,rfl,?_⟩;refine h.runv (cg 3 1 2 _) λI4 F1 n4 h=> ?_;refine ⟨_,rfl,?_⟩;refine h.runv (cg 4 3 0 _) λI5 F1 n5 h=> ?_;refine ⟨_,rfl,?_⟩;refine h.runv (cg 2 0 4 _) λI6 F1 n6 h=> ?_;refine ⟨_,rfl,rfl,rfl,rfl,rfl,rfl,rfl,?_⟩;refine h.newG λb54 I7 F1 n7 q54 _ h=> ?_;refine ⟨_,rfl,h.whole1,rfl,rfl,?_⟩;refine h.push0 T (c:=jQ.arr (Z4 (ZO (ZX b47 0 ZR)) 8 8) n) rfl (by simp [am,ZS]) (by omega) λs1 I8 F1 n8 h hl1=> ?_;refine ⟨_,rfl,h.whole1,rfl,rfl,?_⟩;refine h.push0 T (c:=gW.arr (Z4 (ZO (ZX b54 0 ZR)) 6 6) n) rfl (by simp [am,ZS]) (by omega) λs2 I9 F1 n9 h hl2=> ?_;obtain ⟨ho,-⟩:=h.ownAt (i:=0) rfl;have i89:=aa n8 n9;have i79:=aa n7 i89;have iH:H9.le I9:=aa n1 (aa n2 (aa n3 (aa n4 (aa n5 (aa n6 i79)))));have iG:G.le I9:=aa m1 (aa m2 (aa m3 (aa m4 (aa m5 (aa m6 (aa m7 (aa m8 (aa m9 iH))))))));have hn9:=hn.le (aa lt (aa lG iG));refine ⟨⟨s2,rfl,vs++[jQ.arr (Z4 (ZO (ZX b47 0 ZR)) 8 8) n]++[gW.arr (Z4 (ZO (ZX b54 0 ZR)) 6 6) n],?_,?_⟩,aa lF (aa lG (aa iG h.le))⟩
  ·have e:dS=(lJ::(vJ.take 8).map tkL)++[jQ]++[gW]:=rfl;rw [e];have p1:RL I9 (Z4 (ZO (ZX b47 0 ZR)) 8 8) jQ.pat:=RL.nds.2 (RdS.new (iH _ _ q47) rfl rfl (XS _));have p2:RL I9 (Z4 (ZO (ZX b54 0 ZR)) 6 6) gW.pat:=RL.nds.2 (RdS.new (i89 _ _ q54) rfl rfl (XS _));exact (((hr.le iG).append (.cons (pC p1 hn9) .nil)).append (.cons (pC p2 hn9) .nil)).le h.le
  ·rw [bR,bR,cL,cL];exact ho.rd
abbrev cO (ZH:List ByteArray):Gr:=⟨[⟨#[65]⟩,⟨#[66]⟩],aM,dS,ZH,[],0,[],[]⟩
theorem nF {F:PH} {s:Sl} {ZH:List ο} (hs:RL F s ZH):ν 46 #[s.v] F λr F'=>(∃c n t,r=ZU ((cO ZH).arr c n t s Z3 Z3 Z3)/\RL F' c (cO ZH).ZJ/\RL F' n aM.1/\RL F' t dS/\RL F' s ZH)/\F.le F':=by
 refine WB ?_;unfold R3;refine (St.start F).new λb2 F1 h=> ?_;refine h.run (gf _) λ_ G1 F1 hr l1 h=> ?_;obtain ⟨w,rfl,hw⟩:=hr;obtain ⟨n,rfl,hn⟩:=hw.out;refine ⟨_,rfl,?_⟩;refine h.new λb3 F2 h=> ?_;refine h.put0 (w':= #[n.v,vi aM.2]) rfl rfl (by simp [am,ZS]) λF3 h=> ?_;refine ⟨_,rfl,h.whole0,?_,?_⟩
 ·refine h.newG λb5 G2 F4 l2 q _ h=> ?_;refine h.run (oG _) λ_ G3 F5 hr l3 h=> ?_;obtain ⟨t,rfl,ht⟩:=hr;refine ⟨_,rfl,h.whole0,rfl,?_⟩;refine h.put1 (w':=(cO ZH).arr (Z4 (ZO (ZX b5 0 ZR)) 2 2) n t s Z3 Z3 Z3) rfl rfl (by simp [am,ZS]) λF3 h=> ?_;have l23:=aa l2 l3;exact ⟨_,rfl,h.whole1,⟨_,n,t,rfl,RL.strs.2 (RdS.new (h.le _ _ (l3 _ _ q)) rfl rfl (XS _)),hn.le (aa l23 h.le),ht.le h.le,hs.le (aa l1 (aa l23 h.le))⟩,aa l1 (aa l23 h.le)⟩
 ·refine h.run (oG _) λ_ G3 F5 hr l3 h=> ?_;obtain ⟨t,rfl,ht⟩:=hr;refine ⟨_,rfl,h.whole0,?_⟩;refine h.newG λb5 G2 F4 l2 q _ h=> ?_;refine ⟨rfl,?_⟩;refine h.put1 (w':=(cO ZH).arr (Z4 (ZO (ZX b5 0 ZR)) 2 2) n t s Z3 Z3 Z3) rfl rfl (by simp [am,ZS]) λF3 h=> ?_;have l23:=aa l3 l2;exact ⟨_,rfl,h.whole1,⟨_,n,t,rfl,RL.strs.2 (RdS.new (h.le _ _ q) rfl rfl (XS _)),hn.le (aa l23 h.le),ht.le (aa l2 h.le),hs.le (aa l1 (aa l23 h.le))⟩,aa l1 (aa l23 h.le)⟩
theorem gX (F:PH) {arr:Γ} {k:Nat} (ZH:List ο) (ha:arr.toList=ZH.map Z1) (hk:ZH.length=k) {C:Nat->Nat->Ψ} (kk:∀b0 b1 F',KS F F' b0 b1 (cO ZH)->C b0 b1 F'):
  ∀b0,F b0=ZR->atF (F.set b0 (ZP zG 37)) λF=>∀b3,F b3=ZR->atF (F.set b3 (ZP arr 9)) λF=>ν 46 #[ZS (Z4 (ZO (ZX b3 0 ZR)) k k)] F λv F=>∃w:Γ,v=ZU w/\
   ∀b1,F b1=ZR->atF (F.set b1 (ZP zG 37)) λF=>aw F (ZX b1 0 ZR) 9 w (C b0 b1):=by
 refine (St.start F).new λb0 F1 h=> ?_;refine h.newG λb3 G1 F2 l1 q _ h=> ?_;have hs:RL G1 (Z4 (ZO (ZX b3 0 ZR)) k k) ZH:=RL.strs.2 (RdS.new q (by rw [Yj,<- hk,<- XW (f:=Z1),<- ha];exact XZ) (by rw [XW];omega) (XS _));refine h.run (nF hs) λ_ G2 F3 hr l2 h=> ?_;obtain ⟨c,n,t,rfl,h1,h2,h3,h4⟩:=hr;refine ⟨_,rfl,?_⟩;refine h.new λb1 F4 h=> ?_;refine h.put0 (w':=(cO ZH).arr c n t (Z4 (ZO (ZX b3 0 ZR)) k k) Z3 Z3 Z3) rfl rfl (by simp [am,ZS]) λF5 h=> ?_;have h:=(h.nilOwn 55 13).swap;exact kk _ _ _ ⟨G2,c,n,t,_,Z3,Z3,Z3,[],aa l1 l2,h,.nil,h1,h2,h3,h4,.nil _,.nil _⟩
theorem KS.allv {K F:PH} {b0 b1:Nat} {g:Gr} (h:KS K F b0 b1 g) {C:Nat->Ψ} (k:∀b K' F' n,K.le K'->K' b=ZO (ZP #[ZS n,vi aM.2] 31)->RL K' n aM.1->KS K' F' b0 b1 g->C b F'):
  ν 34 #[ZV ZT] F λv F=>∃w:Γ,v=ZU w/\∀b,F b=ZR->atF (F.set b (ZP #[.slice ZR 0 0,.int .i64 0] 31)) λF=>aw F (ZX b 0 ZR) 2 w (C b):=by
 refine h.run (λG _=>gf G) λ_ K1 F1 hr l1 h=> ?_;obtain ⟨w,rfl,hw⟩:=hr;obtain ⟨n,rfl,hn⟩:=hw.out;refine ⟨_,rfl,?_⟩;obtain ⟨G,c,n',t,s,sp,l,f,vs,h⟩:=h;refine h.st.new λb F2 st=> ?_;refine st.put0 (w':= #[n.v,vi aM.2]) rfl rfl (by simp [am,ZS]) λF3 st=> ?_;refine st.pinb λG' l2 q st=> ?_;have l3:=aa h.k l2;exact k b G' F3 n (aa l1 l3) q (hn.le l3) ⟨G',c,n',t,s,sp,l,f,vs,al _,st,h.r.le l2,h.c.le l2,h.n.le l2,h.t.le l2,h.s.le l2,h.l.le l2,h.f.le l2⟩
abbrev dv (v:Nat):Dia:=dia (ap2 kV (tv v) (ZL ZT))
theorem bF {F:PH} {v:Γ} {x:Nat} (hx:x<6) (h:DV F v (dia (tv x))):ν 86 #[ZU v] F λr F'=>lI (dv x) r F'/\F.le F':=
 (sI h ((Sx.tv (n:=6) hx (by decide)).f2 (Sx.ZL 6 ZT) (by decide))).mono λ_ _ ⟨w,h1,h2,h3⟩=>⟨⟨w,h1,h2⟩,h3⟩
def cI:Gr:={(cO [⟨#[69]⟩]) with ZG:=[bH ⟨#[97,100,100]⟩ 0 [⟨ZQ,0⟩,⟨ZT,1⟩,⟨ZQ,0⟩],bH ⟨#[109,117,108]⟩ 0 [⟨ZQ,0⟩,⟨ZT,2⟩,⟨ZQ,0⟩],{(bH ⟨#[98,114,97,99,107,101,116]⟩ 0 [⟨ZT,3⟩,⟨ZQ,0⟩,⟨ZT,4⟩]) with brk:=ZT},bH ⟨#[110,97,109,101]⟩ 0 [⟨ZT,0⟩],{(bH ⟨#[112,111,119]⟩ 0 [⟨ZQ,0⟩,⟨ZT,8⟩,⟨ZQ,0⟩]) with cond:=dia (tv 1)}],lvs:=[⟨[4],2,aM⟩,⟨[1],1,aM⟩,⟨[0],1,dv 0⟩]}
def co:Gr:={(cO [⟨#[83]⟩,⟨#[67]⟩]) with ZG:=[bH ⟨#[98,111,116,104]⟩ 0 [⟨ZT,5⟩,⟨ZQ,1⟩,⟨ZQ,0⟩,⟨ZT,6⟩,⟨ZQ,0⟩],bH ⟨#[116,104,101,110]⟩ 0 [⟨ZT,5⟩,⟨ZQ,1⟩,⟨ZQ,0⟩],bH ⟨#[99,97,108,108]⟩ 0 [⟨ZQ,1⟩,⟨ZT,7⟩],{(bH ⟨#[98,108,111,99,107]⟩ 0 [⟨ZT,3⟩,⟨ZQ,0⟩,⟨ZT,4⟩]) with brk:=ZT},bH ⟨#[119,111,114,100]⟩ 1 [⟨ZT,0⟩]],fils:=[⟨2,0,2,1,0,0,[],dia (tv 0)⟩,⟨5,0,0,0,0,0,[5,6],dia (tv 1)⟩]}
def dq:Gr:={(cO [⟨#[76]⟩,⟨#[73]⟩]) with ZG:=[bH ⟨#[101,109,112,116,121]⟩ 0 [],bH ⟨#[109,111,114,101]⟩ 0 [⟨ZQ,0⟩,⟨ZQ,1⟩],{(bH ⟨#[116,121,112,101]⟩ 1 [⟨ZT,1⟩,⟨ZT,0⟩,⟨ZT,7⟩]) with sco:=⟨ZQ,2,1,0,0⟩},{(bH ⟨#[112,111,105,110,116,101,114]⟩ 1 [⟨ZT,0⟩,⟨ZT,2⟩,⟨ZT,0⟩,⟨ZT,7⟩]) with sco:=⟨ZQ,3,2,1,2⟩},{(bH ⟨#[112,114,111,100,117,99,116]⟩ 1 [⟨ZT,0⟩,⟨ZT,2⟩,⟨ZT,0⟩,⟨ZT,7⟩]) with sco:=⟨ZQ,0,0,1,5⟩,rank:= -1},{(bH ⟨#[105,110,110,101,114]⟩ 1 [⟨ZT,3⟩,⟨ZQ,0⟩,⟨ZT,4⟩]) with sco:=⟨ZT,0,0,0,0⟩},{(bH ⟨#[115,116,114,105,99,116]⟩ 1 [⟨ZT,0⟩,⟨ZT,7⟩]) with sco:=⟨ZQ,0,0,1,6⟩,cond:=dia (tv 0)}]}
def jR:Gr:={(cO [⟨#[66]⟩,⟨#[73]⟩]) with ZG:=[bH ⟨#[111,110,101]⟩ 0 [⟨ZQ,1⟩],{(bH ⟨#[108,105,115,116]⟩ 0 [⟨ZQ,0⟩,⟨ZQ,1⟩]) with lay:=[⟨2,0,1⟩]},bH ⟨#[119,111,114,100]⟩ 1 [⟨ZT,0⟩],{(bH ⟨#[104,101,97,100]⟩ 1 [⟨ZT,5⟩,⟨ZT,0⟩,⟨ZQ,0⟩]) with lay:=[⟨3,0,2⟩,⟨1,2,0⟩]},{(bH ⟨#[108,105,110,101]⟩ 1 [⟨ZT,5⟩,⟨ZQ,0⟩]) with lay:=[⟨4,0,1⟩],cond:=dia (tv 0)}]}
def gY:Gr:={(cO [⟨#[83]⟩,⟨#[87]⟩,⟨#[86]⟩]) with ZG:=[bH ⟨#[112,97,105,114]⟩ 0 [⟨ZQ,1⟩,⟨ZQ,2⟩],{(bH ⟨#[115,105,110,103,108,101]⟩ 1 [⟨ZT,0⟩]) with rank:= -1},bH ⟨#[100,111,117,98,108,101]⟩ 1 [⟨ZT,0⟩,⟨ZT,0⟩],bH ⟨#[110,111,110,101]⟩ 2 [],bH ⟨#[110,101,120,116]⟩ 2 [⟨ZT,0⟩,⟨ZQ,2⟩],{(bH ⟨#[109,97,114,107]⟩ 2 [⟨ZT,1⟩,⟨ZQ,2⟩]) with cond:=dia (tv 1)}],fils:=[⟨3,0,0,0,1,0,[0],dia (tv 0)⟩,⟨4,0,0,0,2,0,[1],dv 1⟩]}
def gZ:Gr:={(cO [⟨#[83]⟩,⟨#[79]⟩,⟨#[80]⟩]) with ZG:=[bH ⟨#[97,108,108]⟩ 0 [⟨ZQ,1⟩,⟨ZT,0⟩,⟨ZQ,1⟩,⟨ZQ,2⟩],bH ⟨#[110,111]⟩ 1 [],bH ⟨#[121,101,115]⟩ 1 [⟨ZT,1⟩],bH ⟨#[101,110,100]⟩ 2 [],{(bH ⟨#[114,101,115,116]⟩ 2 [⟨ZT,1⟩,⟨ZQ,2⟩]) with cond:=dia (tv 0)}]}
theorem lK (F:PH):ν 131 #[] F λr F'=>(∃w,r=ZU w/\GV F' w dq)/\F.le F':=by refine Sv ?_;unfold MP;refine gX F [⟨#[76]⟩,⟨#[73]⟩] rfl rfl λb0 b1 F1 h=> ?_;refine h.rule0 (by decide) λF2 h=> ?_;refine h.rule2 (eL 0) (eL 1) (by decide) λF2 h=> ?_;refine h.rule3 (de 1) (de 0) (de 7) (by decide) λF2 h=> ?_;refine h.rule4 (de 0) (de 2) (de 0) (de 7) (by decide) λF2 h=> ?_;refine h.rule4 (de 0) (de 2) (de 0) (de 7) (by decide) λF2 h=> ?_;refine h.rule3 (de 3) (eL 0) (de 4) (by decide) λF2 h=> ?_;refine h.rule2 (de 0) (de 7) (by decide) λF2 h=> ?_;refine h.sco 2 rfl λF2 h=> ?_;refine h.sco 3 rfl λF2 h=> ?_;refine h.sco 4 rfl λF2 h=> ?_;refine h.sco 5 rfl λF2 h=> ?_;refine h.sco 6 rfl λF2 h=> ?_;refine h.rank 4 rfl λF2 h=> ?_;refine h.cnd 6 rfl 0 (by decide) λF2 h=> ?_;exact h.fin (R:=λr F'=>(∃w,r=ZU w/\GV F' w dq)/\F.le F') λw F' hv hl=>⟨⟨w,rfl,hv⟩,hl⟩
theorem xY (F:PH):ν 132 #[] F λr F'=>(∃w,r=ZU w/\GV F' w jR)/\F.le F':=by refine Sw ?_;unfold MQ;refine gX F [⟨#[66]⟩,⟨#[73]⟩] rfl rfl λb0 b1 F1 h=> ?_;refine h.rule1 (eL 1) (by decide) λF2 h=> ?_;refine h.rule2 (eL 0) (eL 1) (by decide) λF2 h=> ?_;refine h.rule1 (de 0) (by decide) λF2 h=> ?_;refine h.rule3 (de 5) (de 0) (eL 0) (by decide) λF2 h=> ?_;refine h.rule2 (de 5) (eL 0) (by decide) λF2 h=> ?_;refine h.lay1 1 rfl λF2 h=> ?_;refine h.lay2 3 rfl λF2 h=> ?_;refine h.lay1 4 rfl λF2 h=> ?_;refine h.cnd 4 rfl 0 (by decide) λF2 h=> ?_;exact h.fin (R:=λr F'=>(∃w,r=ZU w/\GV F' w jR)/\F.le F') λw F' hv hl=>⟨⟨w,rfl,hv⟩,hl⟩
theorem vK (F:PH):ν 134 #[] F λr F'=>(∃w,r=ZU w/\GV F' w gZ)/\F.le F':=by refine SC ?_;unfold MS;refine gX F [⟨#[83]⟩,⟨#[79]⟩,⟨#[80]⟩] rfl rfl λb0 b1 F1 h=> ?_;refine h.rule4 (eL 1) (de 0) (eL 1) (eL 2) (by decide) λF2 h=> ?_;refine h.rule0 (by decide) λF2 h=> ?_;refine h.rule1 (de 1) (by decide) λF2 h=> ?_;refine h.rule0 (by decide) λF2 h=> ?_;refine h.rule2 (de 1) (eL 2) (by decide) λF2 h=> ?_;refine h.cnd 4 rfl 0 (by decide) λF2 h=> ?_;exact h.fin (R:=λr F'=>(∃w,r=ZU w/\GV F' w gZ)/\F.le F') λw F' hv hl=>⟨⟨w,rfl,hv⟩,hl⟩
theorem eX {F:PH} {b:Nat} {e:TypeId} {x:Int} (q:F b=ZO (ZP #[vi x] e)):RL F (Z4 (ZO (ZX b 0 ZR)) 1 1) [x]:=RL.ints.2 (RdS.new q rfl rfl (XS _))
theorem pD {F:PH} {x:Fi} {t n:Sl} (ht:RL F t x.ZI) (hn:RL F n x.cond.1):Mem.rep F x (x.arr t n):=⟨t,n,rfl,ht,hn⟩
theorem fV {F:PH} {x:Lv} {p n:Sl} (hp:RL F p x.ps) (hn:RL F n x.cond.1):Mem.rep F x (x.arr p n):=⟨p,n,rfl,hp,hn⟩
theorem vL (F:PH):ν 133 #[] F λr F'=>(∃w,r=ZU w/\GV F' w gY)/\F.le F':=by refine SA ?_;unfold MR;refine gX F [⟨#[83]⟩,⟨#[87]⟩,⟨#[86]⟩] rfl rfl λb0 b1 F1 h=> ?_;refine h.rule2 (eL 1) (eL 2) (by decide) λF2 h=> ?_;refine h.rule1 (de 0) (by decide) λF2 h=> ?_;refine h.rule2 (de 0) (de 0) (by decide) λF2 h=> ?_;refine h.rule0 (by decide) λF2 h=> ?_;refine h.rule2 (de 0) (eL 2) (by decide) λF2 h=> ?_;refine h.rule2 (de 1) (eL 2) (by decide) λF2 h=> ?_;refine h.rank 1 rfl λF2 h=> ?_;refine h.cnd 5 rfl 1 (by decide) λF2 h=> ?_;refine h.new λb64 K3 F3 l3 q64 h=> ?_;refine h.run (λG _=>aN 0 (by decide) G) λ_ K4 F4 hr l4 h=> ?_;obtain ⟨_,rfl,hw⟩:=hr;obtain ⟨m,rfl,hm⟩:=hw.out;refine ⟨_,rfl,rfl,?_⟩;refine h.new λb67 K5 F5 l5 q67 h=> ?_;refine h.run (λG _=>aN 1 (by decide) G) λ_ K6 F6 hr l6 h=> ?_;obtain ⟨_,rfl,hv⟩:=hr;refine ⟨_,rfl,?_⟩;refine h.run (λG hl=>bF (by decide) (hv.le hl)) λ_ K7 F7 hr l7 h=> ?_;obtain ⟨_,rfl,hw⟩:=hr;obtain ⟨m',rfl,hm'⟩:=hw.out;refine ⟨_,rfl,rfl,rfl,rfl,?_⟩;refine h.new λb71 K8 F8 l8 q71 h=> ?_;have l58:=aa l6 (aa l7 l8);have l48:=aa l5 l58;refine h.fils (x:=[⟨3,0,0,0,1,0,[0],dia (tv 0)⟩,⟨4,0,0,0,2,0,[1],dv 1⟩]) ⟨[_,_],.cons (pD (eX (l48 _ _ (l4 _ _ q64))) (hm.le l48)) (.cons (pD (eX (l58 _ _ q67)) (hm'.le l8)) .nil),RdS.new q71 (by kernel_rfl) rfl (XS _)⟩ λF9 h=> ?_;exact h.fin (R:=λr F'=>(∃w,r=ZU w/\GV F' w gY)/\F.le F') λw F' hv hl=>⟨⟨w,rfl,hv⟩,aa l3 (aa l4 (aa l48 hl))⟩
def vM:Gr:={(cO [⟨#[83]⟩,⟨#[67]⟩]) with ZG:=co.ZG}
theorem B0 {K F F0:PH} {b0 b1 b61 b64:Nat} {g:Gr} {c n t s sp l m v:Sl} {vs:List Γ} (hF:F0.le K) (hg:{g with fils:=[⟨2,0,2,1,0,0,[],dia (tv 0)⟩,⟨5,0,0,0,0,0,[5,6],dia (tv 1)⟩]}=co)
  (st:St K F [pt b64 (ZP (wr (wr (#[Z0 .i64 0,.int .i64 0,.int .i64 0,.int .i64 0,.int .i64 0,.int .i64 0,.slice ZR 0 0,.slice ZR 0 0,.int .i64 0,.int .i64 0,.int .i64 0,.int .i64 0,.int .i64 0,.int .i64 0,.int .i64 0,.slice ZR 0 0,.slice ZR 0 0,.int .i64 0]:Γ) 0 (wr (Z6 (Z6 (Z6 (#[Z0 .i64 0,.int .i64 0,.int .i64 0,.int .i64 0,.int .i64 0,.int .i64 0,.slice ZR 0 0,.slice ZR 0 0,.int .i64 0]:Γ) 0 (vi 2)) 2 (vi 2)) 3 (vi 1)) 7 (#[m.v,vi (dia (tv 0)).2]:Γ).toList).toList) 9 (wr (Z6 (Z6 (#[Z0 .i64 0,.int .i64 0,.int .i64 0,.int .i64 0,.int .i64 0,.int .i64 0,.slice ZR 0 0,.slice ZR 0 0,.int .i64 0]:Γ) 0 (vi 5)) 6 (ZS (Z4 (ZO (ZX b61 0 ZR)) 2 2))) 7 (#[v.v,vi aM.2]:Γ).toList).toList) 156),pt b1 (ZP (g.arr c n t s sp l (Z4 (ZO (ZX b64 0 ZR)) 2 2)) 37),own sp 55 13 (cat vs),pt b0 (ZP zG 37)])
  (hr:df K g.ZG vs) (hc:RL K c g.ZJ) (hn:RL K n g.fam.1) (ht:RL K t g.ZI) (hs:RL K s g.ZH) (hl:RL K l g.lvs) (hm:RL K m (dia (tv 0)).1) (q61:RL K (Z4 (ZO (ZX b61 0 ZR)) 2 2) [(5:Int),6]):
  pN b0 b1 (λr F'=>(∃w,r=ZU w/\GV F' w co)/\F0.le F') F:=by
 unfold pN;refine ⟨_,st.ld1 rfl,?_⟩;refine st.run (aN 1 (by decide) _) λ_ K1 F1 hr1 l1 st=> ?_;obtain ⟨_,rfl,hw⟩:=hr1;obtain ⟨m1,rfl,hm1⟩:=hw.out;refine ⟨_,rfl,st.ld1 rfl,_,rfl,by decide,(by show (1:Int)<2;decide),?_⟩;simp only [aG];refine st.putR0 (o:=16) (w':= #[vi 2,vi 0,vi 2,vi 1,vi 0,vi 0,ZS Z3,m.v,vi (dia (tv 0)).2,vi 5,vi 0,vi 0,vi 0,vi 0,vi 0,ZS (Z4 (ZO (ZX b61 0 ZR)) 2 2),m1.v,vi (dia (tv 1)).2]) rfl (by simp [am,ZS]) (by rw [ee,ee];show 16+2<=18;decide) (by kernel_rfl) λF2 st=> ?_;obtain ⟨K2,l2,⟨H,hA,hH⟩,st⟩:=st.pin;have q:=hH _ _ hA;have l12:=aa l1 l2;have hf:RL K2 (Z4 (ZO (ZX b64 0 ZR)) 2 2) [(⟨2,0,2,1,0,0,[],dia (tv 0)⟩:Fi),⟨5,0,0,0,0,0,[5,6],dia (tv 1)⟩]:=
  ⟨[_,_],.cons (pD (t:=Z3) (.nil _) (hm.le l12)) (.cons (pD (q61.le l12) (hm1.le l2)) .nil),RdS.new q (by kernel_rfl) rfl (XS _)⟩
 have h:KS K2 F2 b0 b1 co:=by rw [<- hg];exact ⟨K2,c,n,t,s,sp,l,_,vs,al _,st,hr.le l12,hc.le l12,hn.le l12,ht.le l12,hs.le l12,hl.le l12,hf⟩
 exact h.fin (R:=λr F'=>(∃w,r=ZU w/\GV F' w co)/\F0.le F') λw F' hv hl=>⟨⟨w,rfl,hv⟩,aa hF (aa l12 hl)⟩
theorem pd (F:PH):ν 130 #[] F λr F'=>(∃w,r=ZU w/\GV F' w co)/\F.le F':=by
 refine Su ?_;unfold MO;refine gX F [⟨#[83]⟩,⟨#[67]⟩] rfl rfl λb0 b1 F1 h=> ?_;refine h.allv λb2 K1 F2 n l1 q hn h=> ?_;refine h.rule5 (de 5) (eL 1) (eL 0) (de 6) (eL 0) (by decide) λF2 h=> ?_;refine h.rule3 (de 5) (eL 1) (eL 0) (by decide) λF2 h=> ?_;refine h.rule2 (eL 1) (de 7) (by decide) λF2 h=> ?_;refine h.rule3 (de 3) (eL 0) (de 4) (by decide) λF2 h=> ?_;refine h.rule1 (de 0) (by decide) λF2 h=> ?_;refine h.brk 3 rfl λF2 h=> ?_;refine ⟨_,rfl,ac (h.le _ _ q),?_⟩;obtain ⟨G,c,n',t,s,sp,l,f,vs,h⟩:=h;have hn:=hn.le h.k;have l1:=aa l1 h.k;refine ⟨?_,?_⟩
 ·refine h.st.run (aN 0 (by decide) _) λ_ K4 F4 hr l4 st=> ?_;obtain ⟨_,rfl,hw⟩:=hr;obtain ⟨m,rfl,hm⟩:=hw.out;refine ⟨_,rfl,ac (st.le _ _ (l4 _ _ (h.k _ _ q))),rfl,?_⟩;refine st.newG λb61 K5 F5 l5 q61 _ st=> ?_;refine ⟨rfl,rfl,rfl,?_⟩;refine st.new λb64 F6 st=> ?_;refine st.set1 (w':=(vM.arr c n' t s sp l (Z4 (ZO (ZX b64 0 ZR)) 2 2))) (Z8 rfl) rfl λF7 st=> ?_;have l45:=aa l4 l5;exact B0 (g:=vM) (aa l1 l45) rfl st (h.r.le l45) (h.c.le l45) (h.n.le l45) (h.t.le l45) (h.s.le l45) (h.l.le l45) (hm.le l5) (RL.ints.2 (RdS.new q61 rfl rfl (XS _)))
 ·refine h.st.newG λb61 K5 F5 l5 q61 _ st=> ?_;refine ⟨rfl,?_⟩;refine st.run (aN 0 (by decide) _) λ_ K4 F4 hr l4 st=> ?_;obtain ⟨_,rfl,hw⟩:=hr;obtain ⟨m,rfl,hm⟩:=hw.out;refine ⟨_,rfl,ac (st.le _ _ (l4 _ _ (l5 _ _ (h.k _ _ q)))),rfl,rfl,rfl,?_⟩;refine st.new λb64 F6 st=> ?_;refine st.set1 (w':=(vM.arr c n' t s sp l (Z4 (ZO (ZX b64 0 ZR)) 2 2))) (Z8 rfl) rfl λF7 st=> ?_;have l45:=aa l5 l4;exact B0 (g:=vM) (aa l1 l45) rfl st (h.r.le l45) (h.c.le l45) (h.n.le l45) (h.t.le l45) (h.s.le l45) (h.l.le l45) hm ((RL.ints.2 (RdS.new q61 rfl rfl (XS _))).le l4)
def Mn:Gr:={cI with lvs:=[]}
structure EK (K0 K F:PH) (b0 b1 b2:Nat) (n:Sl):Prop where
 h:KS K F b0 b1 Mn
 l:K0.le K
 q:K b2=ZO (ZP #[ZS n,vi aM.2] 31)
 n:RL K n aM.1
theorem EK.up {K0 K F K' F':PH} {b0 b1 b2:Nat} {n:Sl} (H:EK K0 K F b0 b1 b2 n) (l:K.le K') (h:KS K' F' b0 b1 Mn):EK K0 K' F' b0 b1 b2 n:=⟨h,aa H.l l,l _ _ H.q,H.n.le l⟩
theorem EK.row {K0 K F:PH} {b0 b1 b2:Nat} {n:Sl} (H:EK K0 K F b0 b1 b2 n):F.row (ZX b2 0 ZR) #[ZS n,vi aM.2]:=ac (H.h.le _ _ H.q)
section
variable {K0 K F:PH} {b0 b1 b2:Nat} {n:Sl}
abbrev cE (K0:PH):VR:=λr F'=>(∃w,r=ZU w/\GV F' w cI)/\K0.le F'
theorem OO (H:EK K0 K F b0 b1 b2 n) {b73:Nat} (hr:RL K (Z4 (ZO (ZX b73 0 ZR)) 3 3) cI.lvs):lS b1 b73 b0 (cE K0) F:=by unfold lS;refine H.h.lvs hr λF9 h=> ?_;unfold Cz;exact h.fin (R:=cE K0) λw F' hv hl=>⟨⟨w,rfl,hv⟩,aa H.l hl⟩
theorem g0 (H:EK K0 K F b0 b1 b2 n) {m71:Sl} (h71:RL K m71 (dv 0).1) {b63:Nat} (q63:K b63=ZO (ZP #[vi 4] 3)) {b66:Nat} (q66:K b66=ZO (ZP #[vi 1] 3)) {b69:Nat} (q69:K b69=ZO (ZP #[vi 0] 3)):gD #[ZS m71,vi (dv 0).2] b63 #[ZS n,vi aM.2] b66 #[ZS n,vi aM.2] b69 b1 b0 (cE K0) F:=by unfold gD;refine ⟨rfl,?_⟩;refine ⟨rfl,?_⟩;refine ⟨rfl,?_⟩;refine ⟨rfl,?_⟩;refine H.h.new λb73 K F l q73 h=> ?_;have H:=H.up l h;have h71:=h71.le l;have q63:=l _ _ q63;have q66:=l _ _ q66;have q69:=l _ _ q69;exact OO H ⟨[_,_,_],.cons (fV (eX q63) H.n) (.cons (fV (eX q66) H.n) (.cons (fV (eX q69) h71) .nil)),RdS.new q73 (by kernel_rfl) rfl (XS _)⟩
theorem hX (H:EK K0 K F b0 b1 b2 n) {m70:Sl} (h70:RL K m70 (dia (tv 0)).1) {b63:Nat} (q63:K b63=ZO (ZP #[vi 4] 3)) {b66:Nat} (q66:K b66=ZO (ZP #[vi 1] 3)) {b69:Nat} (q69:K b69=ZO (ZP #[vi 0] 3)):gE #[ZS m70,vi (dia (tv 0)).2] b2 #[ZS n,vi aM.2] #[ZS n,vi aM.2] b63 b66 b69 b1 b0 (cE K0) F:=by unfold gE;refine H.h.run (λG hl=>bF (x:=0) (by decide) ((DV.mk h70).le hl)) λ_ K F hr l h=> ?_;have H:=H.up l h;have h70:=h70.le l;have q63:=l _ _ q63;have q66:=l _ _ q66;have q69:=l _ _ q69;obtain ⟨_,rfl,hw⟩:=hr;obtain ⟨m71,rfl,h71⟩:=hw.out;refine ⟨_,rfl,?_⟩;refine ⟨H.row,?_⟩;refine ⟨H.row,?_⟩;exact g0 H h71 q63 q66 q69
theorem xZ (H:EK K0 K F b0 b1 b2 n) {b63:Nat} (q63:K b63=ZO (ZP #[vi 4] 3)) {b66:Nat} (q66:K b66=ZO (ZP #[vi 1] 3)) {b69:Nat} (q69:K b69=ZO (ZP #[vi 0] 3)):pL b2 #[ZS n,vi aM.2] #[ZS n,vi aM.2] b63 b66 b69 b1 b0 (cE K0) F:=by unfold pL;refine H.h.run (λG _=>aN 0 (by decide) G) λ_ K F hr l h=> ?_;have H:=H.up l h;have q63:=l _ _ q63;have q66:=l _ _ q66;have q69:=l _ _ q69;obtain ⟨_,rfl,hw⟩:=hr;obtain ⟨m70,rfl,h70⟩:=hw.out;refine ⟨_,rfl,?_⟩;refine ⟨H.row,?_⟩;refine ⟨H.row,?_⟩;exact hX H h70 q63 q66 q69
theorem rb (H:EK K0 K F b0 b1 b2 n) {m71:Sl} (h71:RL K m71 (dv 0).1) {b63:Nat} (q63:K b63=ZO (ZP #[vi 4] 3)) {b66:Nat} (q66:K b66=ZO (ZP #[vi 1] 3)):lT #[ZS m71,vi (dv 0).2] b63 #[ZS n,vi aM.2] b66 #[ZS n,vi aM.2] b1 b0 (cE K0) F:=by unfold lT;refine H.h.new λb69 K F l q69 h=> ?_;have H:=H.up l h;have h71:=h71.le l;have q63:=l _ _ q63;have q66:=l _ _ q66;exact g0 H h71 q63 q66 q69
theorem x6 (H:EK K0 K F b0 b1 b2 n) {m70:Sl} (h70:RL K m70 (dia (tv 0)).1) {b63:Nat} (q63:K b63=ZO (ZP #[vi 4] 3)) {b66:Nat} (q66:K b66=ZO (ZP #[vi 1] 3)):pM #[ZS m70,vi (dia (tv 0)).2] b2 #[ZS n,vi aM.2] #[ZS n,vi aM.2] b63 b66 b1 b0 (cE K0) F:=by
 unfold pM;refine ⟨?_,?_⟩
 ·refine H.h.new λb69 K F l q69 h=> ?_;have H:=H.up l h;have h70:=h70.le l;have q63:=l _ _ q63;have q66:=l _ _ q66;exact hX H h70 q63 q66 q69
 ·refine H.h.run (λG hl=>bF (x:=0) (by decide) ((DV.mk h70).le hl)) λ_ K F hr l h=> ?_;have H:=H.up l h;have h70:=h70.le l;have q63:=l _ _ q63;have q66:=l _ _ q66;obtain ⟨_,rfl,hw⟩:=hr;obtain ⟨m71,rfl,h71⟩:=hw.out;refine ⟨_,rfl,?_⟩;refine ⟨H.row,?_⟩;refine ⟨H.row,?_⟩;exact rb H h71 q63 q66
theorem Gh (H:EK K0 K F b0 b1 b2 n) {b63:Nat} (q63:K b63=ZO (ZP #[vi 4] 3)) {b66:Nat} (q66:K b66=ZO (ZP #[vi 1] 3)):ww #[ZS n,vi aM.2] b2 #[ZS n,vi aM.2] b63 b66 b1 b0 (cE K0) F:=by
 unfold ww;refine ⟨rfl,?_⟩;refine ⟨?_,?_⟩
 ·refine H.h.new λb69 K F l q69 h=> ?_;have H:=H.up l h;have q63:=l _ _ q63;have q66:=l _ _ q66;exact xZ H q63 q66 q69
 ·refine H.h.run (λG _=>aN 0 (by decide) G) λ_ K F hr l h=> ?_;have H:=H.up l h;have q63:=l _ _ q63;have q66:=l _ _ q66;obtain ⟨_,rfl,hw⟩:=hr;obtain ⟨m70,rfl,h70⟩:=hw.out;refine ⟨_,rfl,?_⟩;refine ⟨H.row,?_⟩;refine ⟨H.row,?_⟩;exact x6 H h70 q63 q66
theorem um (H:EK K0 K F b0 b1 b2 n) {b63:Nat} (q63:K b63=ZO (ZP #[vi 4] 3)) {b66:Nat} (q66:K b66=ZO (ZP #[vi 1] 3)) {b69:Nat} (q69:K b69=ZO (ZP #[vi 0] 3)):lU #[ZS n,vi aM.2] b2 #[ZS n,vi aM.2] b63 b66 b69 b1 b0 (cE K0) F:=by unfold lU;refine ⟨rfl,?_⟩;refine H.h.run (λG _=>aN 0 (by decide) G) λ_ K F hr l h=> ?_;have H:=H.up l h;have q63:=l _ _ q63;have q66:=l _ _ q66;have q69:=l _ _ q69;obtain ⟨_,rfl,hw⟩:=hr;obtain ⟨m70,rfl,h70⟩:=hw.out;refine ⟨_,rfl,?_⟩;refine ⟨H.row,?_⟩;refine ⟨H.row,?_⟩;exact hX H h70 q63 q66 q69
theorem un (H:EK K0 K F b0 b1 b2 n) {m70:Sl} (h70:RL K m70 (dia (tv 0)).1) {b63:Nat} (q63:K b63=ZO (ZP #[vi 4] 3)) {b66:Nat} (q66:K b66=ZO (ZP #[vi 1] 3)) {b69:Nat} (q69:K b69=ZO (ZP #[vi 0] 3)):lV #[ZS n,vi aM.2] #[ZS m70,vi (dia (tv 0)).2] b2 #[ZS n,vi aM.2] b63 b66 b69 b1 b0 (cE K0) F:=by unfold lV;refine ⟨rfl,?_⟩;refine H.h.run (λG hl=>bF (x:=0) (by decide) ((DV.mk h70).le hl)) λ_ K F hr l h=> ?_;have H:=H.up l h;have h70:=h70.le l;have q63:=l _ _ q63;have q66:=l _ _ q66;have q69:=l _ _ q69;obtain ⟨_,rfl,hw⟩:=hr;obtain ⟨m71,rfl,h71⟩:=hw.out;refine ⟨_,rfl,?_⟩;refine ⟨H.row,?_⟩;refine ⟨H.row,?_⟩;exact g0 H h71 q63 q66 q69
theorem uo (H:EK K0 K F b0 b1 b2 n) {b63:Nat} (q63:K b63=ZO (ZP #[vi 4] 3)) {b66:Nat} (q66:K b66=ZO (ZP #[vi 1] 3)) {b69:Nat} (q69:K b69=ZO (ZP #[vi 0] 3)) {m71:Sl} (h71:RL K m71 (dv 0).1):lW #[ZS n,vi aM.2] b63 #[ZS n,vi aM.2] b66 b69 #[ZS m71,vi (dv 0).2] b1 b0 (cE K0) F:=by unfold lW;refine ⟨rfl,?_⟩;refine ⟨rfl,?_⟩;refine ⟨rfl,?_⟩;refine ⟨rfl,?_⟩;refine H.h.new λb73 K F l q73 h=> ?_;have H:=H.up l h;have q63:=l _ _ q63;have q66:=l _ _ q66;have q69:=l _ _ q69;have h71:=h71.le l;exact OO H ⟨[_,_,_],.cons (fV (eX q63) H.n) (.cons (fV (eX q66) H.n) (.cons (fV (eX q69) h71) .nil)),RdS.new q73 (by kernel_rfl) rfl (XS _)⟩
theorem jS (H:EK K0 K F b0 b1 b2 n) {m71:Sl} (h71:RL K m71 (dv 0).1) {b63:Nat} (q63:K b63=ZO (ZP #[vi 4] 3)) {b69:Nat} (q69:K b69=ZO (ZP #[vi 0] 3)):ie #[ZS m71,vi (dv 0).2] #[ZS n,vi aM.2] b63 #[ZS n,vi aM.2] b69 b1 b0 (cE K0) F:=by unfold ie;refine ⟨rfl,?_⟩;refine H.h.new λb66 K F l q66 h=> ?_;have H:=H.up l h;have h71:=h71.le l;have q63:=l _ _ q63;have q69:=l _ _ q69;exact uo H q63 q66 q69 h71
theorem jT (H:EK K0 K F b0 b1 b2 n) {m70:Sl} (h70:RL K m70 (dia (tv 0)).1) {b63:Nat} (q63:K b63=ZO (ZP #[vi 4] 3)) {b69:Nat} (q69:K b69=ZO (ZP #[vi 0] 3)):ig #[ZS n,vi aM.2] #[ZS m70,vi (dia (tv 0)).2] b2 #[ZS n,vi aM.2] b63 b69 b1 b0 (cE K0) F:=by
 unfold ig;refine ⟨?_,?_⟩
 ·refine H.h.new λb66 K F l q66 h=> ?_;have H:=H.up l h;have h70:=h70.le l;have q63:=l _ _ q63;have q69:=l _ _ q69;exact un H h70 q63 q66 q69
 ·refine H.h.run (λG hl=>bF (x:=0) (by decide) ((DV.mk h70).le hl)) λ_ K F hr l h=> ?_;have H:=H.up l h;have h70:=h70.le l;have q63:=l _ _ q63;have q69:=l _ _ q69;obtain ⟨_,rfl,hw⟩:=hr;obtain ⟨m71,rfl,h71⟩:=hw.out;refine ⟨_,rfl,?_⟩;refine ⟨H.row,?_⟩;refine ⟨H.row,?_⟩;exact jS H h71 q63 q69
theorem D9 (H:EK K0 K F b0 b1 b2 n) {b63:Nat} (q63:K b63=ZO (ZP #[vi 4] 3)) {b69:Nat} (q69:K b69=ZO (ZP #[vi 0] 3)):rP #[ZS n,vi aM.2] b2 #[ZS n,vi aM.2] b63 b69 b1 b0 (cE K0) F:=by
 unfold rP;refine ⟨?_,?_⟩
 ·refine H.h.new λb66 K F l q66 h=> ?_;have H:=H.up l h;have q63:=l _ _ q63;have q69:=l _ _ q69;exact um H q63 q66 q69
 ·refine H.h.run (λG _=>aN 0 (by decide) G) λ_ K F hr l h=> ?_;have H:=H.up l h;have q63:=l _ _ q63;have q69:=l _ _ q69;obtain ⟨_,rfl,hw⟩:=hr;obtain ⟨m70,rfl,h70⟩:=hw.out;refine ⟨_,rfl,?_⟩;refine ⟨H.row,?_⟩;refine ⟨H.row,?_⟩;exact jT H h70 q63 q69
theorem uq (H:EK K0 K F b0 b1 b2 n) {m70:Sl} (h70:RL K m70 (dia (tv 0)).1) {b63:Nat} (q63:K b63=ZO (ZP #[vi 4] 3)) {b66:Nat} (q66:K b66=ZO (ZP #[vi 1] 3)):lX #[ZS n,vi aM.2] #[ZS m70,vi (dia (tv 0)).2] b2 #[ZS n,vi aM.2] b63 b66 b1 b0 (cE K0) F:=by
 unfold lX;refine ⟨rfl,?_⟩;refine ⟨?_,?_⟩
 ·refine H.h.new λb69 K F l q69 h=> ?_;have H:=H.up l h;have h70:=h70.le l;have q63:=l _ _ q63;have q66:=l _ _ q66;exact hX H h70 q63 q66 q69
 ·refine H.h.run (λG hl=>bF (x:=0) (by decide) ((DV.mk h70).le hl)) λ_ K F hr l h=> ?_;have H:=H.up l h;have h70:=h70.le l;have q63:=l _ _ q63;have q66:=l _ _ q66;obtain ⟨_,rfl,hw⟩:=hr;obtain ⟨m71,rfl,h71⟩:=hw.out;refine ⟨_,rfl,?_⟩;refine ⟨H.row,?_⟩;refine ⟨H.row,?_⟩;exact rb H h71 q63 q66
theorem ur (H:EK K0 K F b0 b1 b2 n) {m71:Sl} (h71:RL K m71 (dv 0).1) {b63:Nat} (q63:K b63=ZO (ZP #[vi 4] 3)) {b66:Nat} (q66:K b66=ZO (ZP #[vi 1] 3)):lY #[ZS n,vi aM.2] #[ZS m71,vi (dv 0).2] b63 #[ZS n,vi aM.2] b66 b1 b0 (cE K0) F:=by unfold lY;refine ⟨rfl,?_⟩;refine H.h.new λb69 K F l q69 h=> ?_;have H:=H.up l h;have h71:=h71.le l;have q63:=l _ _ q63;have q66:=l _ _ q66;exact g0 H h71 q63 q66 q69
theorem ut (H:EK K0 K F b0 b1 b2 n) {m71:Sl} (h71:RL K m71 (dv 0).1) {b63:Nat} (q63:K b63=ZO (ZP #[vi 4] 3)):lZ #[ZS n,vi aM.2] #[ZS m71,vi (dv 0).2] b63 #[ZS n,vi aM.2] b1 b0 (cE K0) F:=by
 unfold lZ;refine ⟨?_,?_⟩
 ·refine H.h.new λb66 K F l q66 h=> ?_;have H:=H.up l h;have h71:=h71.le l;have q63:=l _ _ q63;exact ur H h71 q63 q66
 ·refine H.h.new λb69 K F l q69 h=> ?_;have H:=H.up l h;have h71:=h71.le l;have q63:=l _ _ q63;exact jS H h71 q63 q69
theorem Ea (H:EK K0 K F b0 b1 b2 n) {m70:Sl} (h70:RL K m70 (dia (tv 0)).1) {b63:Nat} (q63:K b63=ZO (ZP #[vi 4] 3)):rQ #[ZS n,vi aM.2] #[ZS m70,vi (dia (tv 0)).2] b2 #[ZS n,vi aM.2] b63 b1 b0 (cE K0) F:=by
 unfold rQ;refine ⟨?_,?_,?_⟩
 ·refine H.h.new λb66 K F l q66 h=> ?_;have H:=H.up l h;have h70:=h70.le l;have q63:=l _ _ q63;exact uq H h70 q63 q66
 ·refine H.h.new λb69 K F l q69 h=> ?_;have H:=H.up l h;have h70:=h70.le l;have q63:=l _ _ q63;exact jT H h70 q63 q69
 ·refine H.h.run (λG hl=>bF (x:=0) (by decide) ((DV.mk h70).le hl)) λ_ K F hr l h=> ?_;have H:=H.up l h;have h70:=h70.le l;have q63:=l _ _ q63;obtain ⟨_,rfl,hw⟩:=hr;obtain ⟨m71,rfl,h71⟩:=hw.out;refine ⟨_,rfl,?_⟩;refine ⟨H.row,?_⟩;refine ⟨H.row,?_⟩;exact ut H h71 q63
theorem Gi (H:EK K0 K F b0 b1 b2 n) {b63:Nat} (q63:K b63=ZO (ZP #[vi 4] 3)):wx #[ZS n,vi aM.2] #[ZS n,vi aM.2] b2 b63 b1 b0 (cE K0) F:=by
 unfold wx;refine ⟨rfl,?_⟩;refine ⟨?_,?_,?_⟩
 ·refine H.h.new λb66 K F l q66 h=> ?_;have H:=H.up l h;have q63:=l _ _ q63;exact Gh H q63 q66
 ·refine H.h.new λb69 K F l q69 h=> ?_;have H:=H.up l h;have q63:=l _ _ q63;exact D9 H q63 q69
 ·refine H.h.run (λG _=>aN 0 (by decide) G) λ_ K F hr l h=> ?_;have H:=H.up l h;have q63:=l _ _ q63;obtain ⟨_,rfl,hw⟩:=hr;obtain ⟨m70,rfl,h70⟩:=hw.out;refine ⟨_,rfl,?_⟩;refine ⟨H.row,?_⟩;refine ⟨H.row,?_⟩;exact Ea H h70 q63
theorem Eb (H:EK K0 K F b0 b1 b2 n) {b63:Nat} (q63:K b63=ZO (ZP #[vi 4] 3)) {b66:Nat} (q66:K b66=ZO (ZP #[vi 1] 3)):rR #[ZS n,vi aM.2] b2 #[ZS n,vi aM.2] b63 b66 b1 b0 (cE K0) F:=by
 unfold rR;refine ⟨rfl,?_⟩;refine ⟨?_,?_⟩
 ·refine H.h.new λb69 K F l q69 h=> ?_;have H:=H.up l h;have q63:=l _ _ q63;have q66:=l _ _ q66;exact xZ H q63 q66 q69
 ·refine H.h.run (λG _=>aN 0 (by decide) G) λ_ K F hr l h=> ?_;have H:=H.up l h;have q63:=l _ _ q63;have q66:=l _ _ q66;obtain ⟨_,rfl,hw⟩:=hr;obtain ⟨m70,rfl,h70⟩:=hw.out;refine ⟨_,rfl,?_⟩;refine ⟨H.row,?_⟩;refine ⟨H.row,?_⟩;exact x6 H h70 q63 q66
theorem uu (H:EK K0 K F b0 b1 b2 n) {b63:Nat} (q63:K b63=ZO (ZP #[vi 4] 3)) {b66:Nat} (q66:K b66=ZO (ZP #[vi 1] 3)) {b69:Nat} (q69:K b69=ZO (ZP #[vi 0] 3)):ma #[ZS n,vi aM.2] b2 #[ZS n,vi aM.2] b63 b66 b69 b1 b0 (cE K0) F:=by unfold ma;refine ⟨rfl,?_⟩;refine H.h.run (λG _=>aN 0 (by decide) G) λ_ K F hr l h=> ?_;have H:=H.up l h;have q63:=l _ _ q63;have q66:=l _ _ q66;have q69:=l _ _ q69;obtain ⟨_,rfl,hw⟩:=hr;obtain ⟨m70,rfl,h70⟩:=hw.out;refine ⟨_,rfl,?_⟩;refine ⟨H.row,?_⟩;refine ⟨H.row,?_⟩;exact hX H h70 q63 q66 q69
theorem uv (H:EK K0 K F b0 b1 b2 n) {m70:Sl} (h70:RL K m70 (dia (tv 0)).1) {b63:Nat} (q63:K b63=ZO (ZP #[vi 4] 3)) {b66:Nat} (q66:K b66=ZO (ZP #[vi 1] 3)) {b69:Nat} (q69:K b69=ZO (ZP #[vi 0] 3)):mb #[ZS n,vi aM.2] #[ZS m70,vi (dia (tv 0)).2] b2 #[ZS n,vi aM.2] b63 b66 b69 b1 b0 (cE K0) F:=by unfold mb;refine ⟨rfl,?_⟩;refine H.h.run (λG hl=>bF (x:=0) (by decide) ((DV.mk h70).le hl)) λ_ K F hr l h=> ?_;have H:=H.up l h;have h70:=h70.le l;have q63:=l _ _ q63;have q66:=l _ _ q66;have q69:=l _ _ q69;obtain ⟨_,rfl,hw⟩:=hr;obtain ⟨m71,rfl,h71⟩:=hw.out;refine ⟨_,rfl,?_⟩;refine ⟨H.row,?_⟩;refine ⟨H.row,?_⟩;exact g0 H h71 q63 q66 q69
theorem uw (H:EK K0 K F b0 b1 b2 n) {b63:Nat} (q63:K b63=ZO (ZP #[vi 4] 3)) {b66:Nat} (q66:K b66=ZO (ZP #[vi 1] 3)) {b69:Nat} (q69:K b69=ZO (ZP #[vi 0] 3)) {m71:Sl} (h71:RL K m71 (dv 0).1):me #[ZS n,vi aM.2] b63 b66 #[ZS n,vi aM.2] b69 #[ZS m71,vi (dv 0).2] b1 b0 (cE K0) F:=by unfold me;refine ⟨rfl,?_⟩;refine ⟨rfl,?_⟩;refine ⟨rfl,?_⟩;refine ⟨rfl,?_⟩;refine H.h.new λb73 K F l q73 h=> ?_;have H:=H.up l h;have q63:=l _ _ q63;have q66:=l _ _ q66;have q69:=l _ _ q69;have h71:=h71.le l;exact OO H ⟨[_,_,_],.cons (fV (eX q63) H.n) (.cons (fV (eX q66) H.n) (.cons (fV (eX q69) h71) .nil)),RdS.new q73 (by kernel_rfl) rfl (XS _)⟩
theorem jU (H:EK K0 K F b0 b1 b2 n) {m71:Sl} (h71:RL K m71 (dv 0).1) {b66:Nat} (q66:K b66=ZO (ZP #[vi 1] 3)) {b69:Nat} (q69:K b69=ZO (ZP #[vi 0] 3)):ii #[ZS m71,vi (dv 0).2] #[ZS n,vi aM.2] b66 #[ZS n,vi aM.2] b69 b1 b0 (cE K0) F:=by unfold ii;refine ⟨rfl,?_⟩;refine H.h.new λb63 K F l q63 h=> ?_;have H:=H.up l h;have h71:=h71.le l;have q66:=l _ _ q66;have q69:=l _ _ q69;exact uw H q63 q66 q69 h71
theorem jV (H:EK K0 K F b0 b1 b2 n) {m70:Sl} (h70:RL K m70 (dia (tv 0)).1) {b66:Nat} (q66:K b66=ZO (ZP #[vi 1] 3)) {b69:Nat} (q69:K b69=ZO (ZP #[vi 0] 3)):ij #[ZS n,vi aM.2] #[ZS m70,vi (dia (tv 0)).2] b2 #[ZS n,vi aM.2] b66 b69 b1 b0 (cE K0) F:=by
 unfold ij;refine ⟨?_,?_⟩
 ·refine H.h.new λb63 K F l q63 h=> ?_;have H:=H.up l h;have h70:=h70.le l;have q66:=l _ _ q66;have q69:=l _ _ q69;exact uv H h70 q63 q66 q69
 ·refine H.h.run (λG hl=>bF (x:=0) (by decide) ((DV.mk h70).le hl)) λ_ K F hr l h=> ?_;have H:=H.up l h;have h70:=h70.le l;have q66:=l _ _ q66;have q69:=l _ _ q69;obtain ⟨_,rfl,hw⟩:=hr;obtain ⟨m71,rfl,h71⟩:=hw.out;refine ⟨_,rfl,?_⟩;refine ⟨H.row,?_⟩;refine ⟨H.row,?_⟩;exact jU H h71 q66 q69
theorem Ec (H:EK K0 K F b0 b1 b2 n) {b66:Nat} (q66:K b66=ZO (ZP #[vi 1] 3)) {b69:Nat} (q69:K b69=ZO (ZP #[vi 0] 3)):rS #[ZS n,vi aM.2] b2 #[ZS n,vi aM.2] b66 b69 b1 b0 (cE K0) F:=by
 unfold rS;refine ⟨?_,?_⟩
 ·refine H.h.new λb63 K F l q63 h=> ?_;have H:=H.up l h;have q66:=l _ _ q66;have q69:=l _ _ q69;exact uu H q63 q66 q69
 ·refine H.h.run (λG _=>aN 0 (by decide) G) λ_ K F hr l h=> ?_;have H:=H.up l h;have q66:=l _ _ q66;have q69:=l _ _ q69;obtain ⟨_,rfl,hw⟩:=hr;obtain ⟨m70,rfl,h70⟩:=hw.out;refine ⟨_,rfl,?_⟩;refine ⟨H.row,?_⟩;refine ⟨H.row,?_⟩;exact jV H h70 q66 q69
theorem ux (H:EK K0 K F b0 b1 b2 n) {m70:Sl} (h70:RL K m70 (dia (tv 0)).1) {b63:Nat} (q63:K b63=ZO (ZP #[vi 4] 3)) {b66:Nat} (q66:K b66=ZO (ZP #[vi 1] 3)):mh #[ZS n,vi aM.2] #[ZS m70,vi (dia (tv 0)).2] b2 #[ZS n,vi aM.2] b63 b66 b1 b0 (cE K0) F:=by
 unfold mh;refine ⟨rfl,?_⟩;refine ⟨?_,?_⟩
 ·refine H.h.new λb69 K F l q69 h=> ?_;have H:=H.up l h;have h70:=h70.le l;have q63:=l _ _ q63;have q66:=l _ _ q66;exact hX H h70 q63 q66 q69
 ·refine H.h.run (λG hl=>bF (x:=0) (by decide) ((DV.mk h70).le hl)) λ_ K F hr l h=> ?_;have H:=H.up l h;have h70:=h70.le l;have q63:=l _ _ q63;have q66:=l _ _ q66;obtain ⟨_,rfl,hw⟩:=hr;obtain ⟨m71,rfl,h71⟩:=hw.out;refine ⟨_,rfl,?_⟩;refine ⟨H.row,?_⟩;refine ⟨H.row,?_⟩;exact rb H h71 q63 q66
theorem uy (H:EK K0 K F b0 b1 b2 n) {m71:Sl} (h71:RL K m71 (dv 0).1) {b63:Nat} (q63:K b63=ZO (ZP #[vi 4] 3)) {b66:Nat} (q66:K b66=ZO (ZP #[vi 1] 3)):mi #[ZS n,vi aM.2] #[ZS m71,vi (dv 0).2] b63 b66 #[ZS n,vi aM.2] b1 b0 (cE K0) F:=by unfold mi;refine ⟨rfl,?_⟩;refine H.h.new λb69 K F l q69 h=> ?_;have H:=H.up l h;have h71:=h71.le l;have q63:=l _ _ q63;have q66:=l _ _ q66;exact g0 H h71 q63 q66 q69
theorem uz (H:EK K0 K F b0 b1 b2 n) {m71:Sl} (h71:RL K m71 (dv 0).1) {b66:Nat} (q66:K b66=ZO (ZP #[vi 1] 3)):mj #[ZS n,vi aM.2] #[ZS m71,vi (dv 0).2] b66 #[ZS n,vi aM.2] b1 b0 (cE K0) F:=by
 unfold mj;refine ⟨?_,?_⟩
 ·refine H.h.new λb63 K F l q63 h=> ?_;have H:=H.up l h;have h71:=h71.le l;have q66:=l _ _ q66;exact uy H h71 q63 q66
 ·refine H.h.new λb69 K F l q69 h=> ?_;have H:=H.up l h;have h71:=h71.le l;have q66:=l _ _ q66;exact jU H h71 q66 q69
theorem Ed (H:EK K0 K F b0 b1 b2 n) {m70:Sl} (h70:RL K m70 (dia (tv 0)).1) {b66:Nat} (q66:K b66=ZO (ZP #[vi 1] 3)):rT #[ZS n,vi aM.2] #[ZS m70,vi (dia (tv 0)).2] b2 #[ZS n,vi aM.2] b66 b1 b0 (cE K0) F:=by
 unfold rT;refine ⟨?_,?_,?_⟩
 ·refine H.h.new λb63 K F l q63 h=> ?_;have H:=H.up l h;have h70:=h70.le l;have q66:=l _ _ q66;exact ux H h70 q63 q66
 ·refine H.h.new λb69 K F l q69 h=> ?_;have H:=H.up l h;have h70:=h70.le l;have q66:=l _ _ q66;exact jV H h70 q66 q69
 ·refine H.h.run (λG hl=>bF (x:=0) (by decide) ((DV.mk h70).le hl)) λ_ K F hr l h=> ?_;have H:=H.up l h;have h70:=h70.le l;have q66:=l _ _ q66;obtain ⟨_,rfl,hw⟩:=hr;obtain ⟨m71,rfl,h71⟩:=hw.out;refine ⟨_,rfl,?_⟩;refine ⟨H.row,?_⟩;refine ⟨H.row,?_⟩;exact uz H h71 q66
theorem Ee (H:EK K0 K F b0 b1 b2 n) {b66:Nat} (q66:K b66=ZO (ZP #[vi 1] 3)):rU #[ZS n,vi aM.2] #[ZS n,vi aM.2] b2 b66 b1 b0 (cE K0) F:=by
 unfold rU;refine ⟨rfl,?_⟩;refine ⟨?_,?_,?_⟩
 ·refine H.h.new λb63 K F l q63 h=> ?_;have H:=H.up l h;have q66:=l _ _ q66;exact Eb H q63 q66
 ·refine H.h.new λb69 K F l q69 h=> ?_;have H:=H.up l h;have q66:=l _ _ q66;exact Ec H q66 q69
 ·refine H.h.run (λG _=>aN 0 (by decide) G) λ_ K F hr l h=> ?_;have H:=H.up l h;have q66:=l _ _ q66;obtain ⟨_,rfl,hw⟩:=hr;obtain ⟨m70,rfl,h70⟩:=hw.out;refine ⟨_,rfl,?_⟩;refine ⟨H.row,?_⟩;refine ⟨H.row,?_⟩;exact Ed H h70 q66
theorem Ef (H:EK K0 K F b0 b1 b2 n) {b63:Nat} (q63:K b63=ZO (ZP #[vi 4] 3)) {b69:Nat} (q69:K b69=ZO (ZP #[vi 0] 3)):rV #[ZS n,vi aM.2] #[ZS n,vi aM.2] b2 b63 b69 b1 b0 (cE K0) F:=by
 unfold rV;refine ⟨rfl,?_⟩;refine ⟨?_,?_⟩
 ·refine H.h.new λb66 K F l q66 h=> ?_;have H:=H.up l h;have q63:=l _ _ q63;have q69:=l _ _ q69;exact um H q63 q66 q69
 ·refine H.h.run (λG _=>aN 0 (by decide) G) λ_ K F hr l h=> ?_;have H:=H.up l h;have q63:=l _ _ q63;have q69:=l _ _ q69;obtain ⟨_,rfl,hw⟩:=hr;obtain ⟨m70,rfl,h70⟩:=hw.out;refine ⟨_,rfl,?_⟩;refine ⟨H.row,?_⟩;refine ⟨H.row,?_⟩;exact jT H h70 q63 q69
theorem Eg (H:EK K0 K F b0 b1 b2 n) {b66:Nat} (q66:K b66=ZO (ZP #[vi 1] 3)) {b69:Nat} (q69:K b69=ZO (ZP #[vi 0] 3)):rW #[ZS n,vi aM.2] #[ZS n,vi aM.2] b2 b66 b69 b1 b0 (cE K0) F:=by
 unfold rW;refine ⟨rfl,?_⟩;refine ⟨?_,?_⟩
 ·refine H.h.new λb63 K F l q63 h=> ?_;have H:=H.up l h;have q66:=l _ _ q66;have q69:=l _ _ q69;exact uu H q63 q66 q69
 ·refine H.h.run (λG _=>aN 0 (by decide) G) λ_ K F hr l h=> ?_;have H:=H.up l h;have q66:=l _ _ q66;have q69:=l _ _ q69;obtain ⟨_,rfl,hw⟩:=hr;obtain ⟨m70,rfl,h70⟩:=hw.out;refine ⟨_,rfl,?_⟩;refine ⟨H.row,?_⟩;refine ⟨H.row,?_⟩;exact jV H h70 q66 q69
theorem Eh (H:EK K0 K F b0 b1 b2 n) {m70:Sl} (h70:RL K m70 (dia (tv 0)).1) {b63:Nat} (q63:K b63=ZO (ZP #[vi 4] 3)) {b69:Nat} (q69:K b69=ZO (ZP #[vi 0] 3)):rX #[ZS n,vi aM.2] #[ZS n,vi aM.2] #[ZS m70,vi (dia (tv 0)).2] b2 b63 b69 b1 b0 (cE K0) F:=by
 unfold rX;refine ⟨rfl,?_⟩;refine ⟨?_,?_⟩
 ·refine H.h.new λb66 K F l q66 h=> ?_;have H:=H.up l h;have h70:=h70.le l;have q63:=l _ _ q63;have q69:=l _ _ q69;exact un H h70 q63 q66 q69
 ·refine H.h.run (λG hl=>bF (x:=0) (by decide) ((DV.mk h70).le hl)) λ_ K F hr l h=> ?_;have H:=H.up l h;have h70:=h70.le l;have q63:=l _ _ q63;have q69:=l _ _ q69;obtain ⟨_,rfl,hw⟩:=hr;obtain ⟨m71,rfl,h71⟩:=hw.out;refine ⟨_,rfl,?_⟩;refine ⟨H.row,?_⟩;refine ⟨H.row,?_⟩;exact jS H h71 q63 q69
theorem Ei (H:EK K0 K F b0 b1 b2 n) {m70:Sl} (h70:RL K m70 (dia (tv 0)).1) {b66:Nat} (q66:K b66=ZO (ZP #[vi 1] 3)) {b69:Nat} (q69:K b69=ZO (ZP #[vi 0] 3)):rY #[ZS n,vi aM.2] #[ZS n,vi aM.2] #[ZS m70,vi (dia (tv 0)).2] b2 b66 b69 b1 b0 (cE K0) F:=by
 unfold rY;refine ⟨rfl,?_⟩;refine ⟨?_,?_⟩
 ·refine H.h.new λb63 K F l q63 h=> ?_;have H:=H.up l h;have h70:=h70.le l;have q66:=l _ _ q66;have q69:=l _ _ q69;exact uv H h70 q63 q66 q69
 ·refine H.h.run (λG hl=>bF (x:=0) (by decide) ((DV.mk h70).le hl)) λ_ K F hr l h=> ?_;have H:=H.up l h;have h70:=h70.le l;have q66:=l _ _ q66;have q69:=l _ _ q69;obtain ⟨_,rfl,hw⟩:=hr;obtain ⟨m71,rfl,h71⟩:=hw.out;refine ⟨_,rfl,?_⟩;refine ⟨H.row,?_⟩;refine ⟨H.row,?_⟩;exact jU H h71 q66 q69
theorem Ej (H:EK K0 K F b0 b1 b2 n) {b63:Nat} (q63:K b63=ZO (ZP #[vi 4] 3)) {b69:Nat} (q69:K b69=ZO (ZP #[vi 0] 3)) {m71:Sl} (h71:RL K m71 (dv 0).1):rZ #[ZS n,vi aM.2] #[ZS n,vi aM.2] b63 b69 #[ZS m71,vi (dv 0).2] b1 b0 (cE K0) F:=by unfold rZ;refine ⟨rfl,?_⟩;refine H.h.new λb66 K F l q66 h=> ?_;have H:=H.up l h;have q63:=l _ _ q63;have q69:=l _ _ q69;have h71:=h71.le l;exact uo H q63 q66 q69 h71
theorem Ek (H:EK K0 K F b0 b1 b2 n) {b66:Nat} (q66:K b66=ZO (ZP #[vi 1] 3)) {b69:Nat} (q69:K b69=ZO (ZP #[vi 0] 3)) {m71:Sl} (h71:RL K m71 (dv 0).1):r4 #[ZS n,vi aM.2] #[ZS n,vi aM.2] b66 b69 #[ZS m71,vi (dv 0).2] b1 b0 (cE K0) F:=by unfold r4;refine ⟨rfl,?_⟩;refine H.h.new λb63 K F l q63 h=> ?_;have H:=H.up l h;have q66:=l _ _ q66;have q69:=l _ _ q69;have h71:=h71.le l;exact uw H q63 q66 q69 h71
theorem uA (H:EK K0 K F b0 b1 b2 n) {m71:Sl} (h71:RL K m71 (dv 0).1) {b69:Nat} (q69:K b69=ZO (ZP #[vi 0] 3)):ml #[ZS m71,vi (dv 0).2] #[ZS n,vi aM.2] #[ZS n,vi aM.2] b69 b1 b0 (cE K0) F:=by
 unfold ml;refine ⟨rfl,?_⟩;refine ⟨?_,?_⟩
 ·refine H.h.new λb63 K F l q63 h=> ?_;have H:=H.up l h;have h71:=h71.le l;have q69:=l _ _ q69;exact Ej H q63 q69 h71
 ·refine H.h.new λb66 K F l q66 h=> ?_;have H:=H.up l h;have h71:=h71.le l;have q69:=l _ _ q69;exact Ek H q66 q69 h71
theorem uB (H:EK K0 K F b0 b1 b2 n) {m70:Sl} (h70:RL K m70 (dia (tv 0)).1) {b69:Nat} (q69:K b69=ZO (ZP #[vi 0] 3)):mq #[ZS n,vi aM.2] #[ZS n,vi aM.2] #[ZS m70,vi (dia (tv 0)).2] b2 b69 b1 b0 (cE K0) F:=by
 unfold mq;refine ⟨?_,?_,?_⟩
 ·refine H.h.new λb63 K F l q63 h=> ?_;have H:=H.up l h;have h70:=h70.le l;have q69:=l _ _ q69;exact Eh H h70 q63 q69
 ·refine H.h.new λb66 K F l q66 h=> ?_;have H:=H.up l h;have h70:=h70.le l;have q69:=l _ _ q69;exact Ei H h70 q66 q69
 ·refine H.h.run (λG hl=>bF (x:=0) (by decide) ((DV.mk h70).le hl)) λ_ K F hr l h=> ?_;have H:=H.up l h;have h70:=h70.le l;have q69:=l _ _ q69;obtain ⟨_,rfl,hw⟩:=hr;obtain ⟨m71,rfl,h71⟩:=hw.out;refine ⟨_,rfl,?_⟩;refine ⟨H.row,?_⟩;refine ⟨H.row,?_⟩;exact uA H h71 q69
theorem El (H:EK K0 K F b0 b1 b2 n) {b69:Nat} (q69:K b69=ZO (ZP #[vi 0] 3)):r5 #[ZS n,vi aM.2] #[ZS n,vi aM.2] b2 b69 b1 b0 (cE K0) F:=by
 unfold r5;refine ⟨?_,?_,?_⟩
 ·refine H.h.new λb63 K F l q63 h=> ?_;have H:=H.up l h;have q69:=l _ _ q69;exact Ef H q63 q69
 ·refine H.h.new λb66 K F l q66 h=> ?_;have H:=H.up l h;have q69:=l _ _ q69;exact Eg H q66 q69
 ·refine H.h.run (λG _=>aN 0 (by decide) G) λ_ K F hr l h=> ?_;have H:=H.up l h;have q69:=l _ _ q69;obtain ⟨_,rfl,hw⟩:=hr;obtain ⟨m70,rfl,h70⟩:=hw.out;refine ⟨_,rfl,?_⟩;refine ⟨H.row,?_⟩;refine ⟨H.row,?_⟩;exact uB H h70 q69
theorem Em (H:EK K0 K F b0 b1 b2 n) {m70:Sl} (h70:RL K m70 (dia (tv 0)).1) {b63:Nat} (q63:K b63=ZO (ZP #[vi 4] 3)):r7 #[ZS n,vi aM.2] #[ZS n,vi aM.2] #[ZS m70,vi (dia (tv 0)).2] b2 b63 b1 b0 (cE K0) F:=by
 unfold r7;refine ⟨rfl,?_⟩;refine ⟨?_,?_,?_⟩
 ·refine H.h.new λb66 K F l q66 h=> ?_;have H:=H.up l h;have h70:=h70.le l;have q63:=l _ _ q63;exact uq H h70 q63 q66
 ·refine H.h.new λb69 K F l q69 h=> ?_;have H:=H.up l h;have h70:=h70.le l;have q63:=l _ _ q63;exact jT H h70 q63 q69
 ·refine H.h.run (λG hl=>bF (x:=0) (by decide) ((DV.mk h70).le hl)) λ_ K F hr l h=> ?_;have H:=H.up l h;have h70:=h70.le l;have q63:=l _ _ q63;obtain ⟨_,rfl,hw⟩:=hr;obtain ⟨m71,rfl,h71⟩:=hw.out;refine ⟨_,rfl,?_⟩;refine ⟨H.row,?_⟩;refine ⟨H.row,?_⟩;exact ut H h71 q63
theorem Eo (H:EK K0 K F b0 b1 b2 n) {m70:Sl} (h70:RL K m70 (dia (tv 0)).1) {b66:Nat} (q66:K b66=ZO (ZP #[vi 1] 3)):sg #[ZS n,vi aM.2] #[ZS n,vi aM.2] #[ZS m70,vi (dia (tv 0)).2] b2 b66 b1 b0 (cE K0) F:=by
 unfold sg;refine ⟨rfl,?_⟩;refine ⟨?_,?_,?_⟩
 ·refine H.h.new λb63 K F l q63 h=> ?_;have H:=H.up l h;have h70:=h70.le l;have q66:=l _ _ q66;exact ux H h70 q63 q66
 ·refine H.h.new λb69 K F l q69 h=> ?_;have H:=H.up l h;have h70:=h70.le l;have q66:=l _ _ q66;exact jV H h70 q66 q69
 ·refine H.h.run (λG hl=>bF (x:=0) (by decide) ((DV.mk h70).le hl)) λ_ K F hr l h=> ?_;have H:=H.up l h;have h70:=h70.le l;have q66:=l _ _ q66;obtain ⟨_,rfl,hw⟩:=hr;obtain ⟨m71,rfl,h71⟩:=hw.out;refine ⟨_,rfl,?_⟩;refine ⟨H.row,?_⟩;refine ⟨H.row,?_⟩;exact uz H h71 q66
theorem Ep (H:EK K0 K F b0 b1 b2 n) {m71:Sl} (h71:RL K m71 (dv 0).1) {b63:Nat} (q63:K b63=ZO (ZP #[vi 4] 3)):sk #[ZS n,vi aM.2] #[ZS n,vi aM.2] #[ZS m71,vi (dv 0).2] b63 b1 b0 (cE K0) F:=by
 unfold sk;refine ⟨rfl,?_⟩;refine ⟨?_,?_⟩
 ·refine H.h.new λb66 K F l q66 h=> ?_;have H:=H.up l h;have h71:=h71.le l;have q63:=l _ _ q63;exact ur H h71 q63 q66
 ·refine H.h.new λb69 K F l q69 h=> ?_;have H:=H.up l h;have h71:=h71.le l;have q63:=l _ _ q63;exact jS H h71 q63 q69
theorem Er (H:EK K0 K F b0 b1 b2 n) {m71:Sl} (h71:RL K m71 (dv 0).1) {b66:Nat} (q66:K b66=ZO (ZP #[vi 1] 3)):sq #[ZS n,vi aM.2] #[ZS n,vi aM.2] #[ZS m71,vi (dv 0).2] b66 b1 b0 (cE K0) F:=by
 unfold sq;refine ⟨rfl,?_⟩;refine ⟨?_,?_⟩
 ·refine H.h.new λb63 K F l q63 h=> ?_;have H:=H.up l h;have h71:=h71.le l;have q66:=l _ _ q66;exact uy H h71 q63 q66
 ·refine H.h.new λb69 K F l q69 h=> ?_;have H:=H.up l h;have h71:=h71.le l;have q66:=l _ _ q66;exact jU H h71 q66 q69
theorem Es (H:EK K0 K F b0 b1 b2 n) {m71:Sl} (h71:RL K m71 (dv 0).1):ss #[ZS n,vi aM.2] #[ZS n,vi aM.2] #[ZS m71,vi (dv 0).2] b1 b0 (cE K0) F:=by
 unfold ss;refine ⟨?_,?_,?_⟩
 ·refine H.h.new λb63 K F l q63 h=> ?_;have H:=H.up l h;have h71:=h71.le l;exact Ep H h71 q63
 ·refine H.h.new λb66 K F l q66 h=> ?_;have H:=H.up l h;have h71:=h71.le l;exact Er H h71 q66
 ·refine H.h.new λb69 K F l q69 h=> ?_;have H:=H.up l h;have h71:=h71.le l;exact uA H h71 q69
theorem Et (H:EK K0 K F b0 b1 b2 n) {m70:Sl} (h70:RL K m70 (dia (tv 0)).1):sA #[ZS n,vi aM.2] #[ZS n,vi aM.2] #[ZS m70,vi (dia (tv 0)).2] b2 b1 b0 (cE K0) F:=by
 unfold sA;refine ⟨?_,?_,?_,?_⟩
 ·refine H.h.new λb63 K F l q63 h=> ?_;have H:=H.up l h;have h70:=h70.le l;exact Em H h70 q63
 ·refine H.h.new λb66 K F l q66 h=> ?_;have H:=H.up l h;have h70:=h70.le l;exact Eo H h70 q66
 ·refine H.h.new λb69 K F l q69 h=> ?_;have H:=H.up l h;have h70:=h70.le l;exact uB H h70 q69
 ·refine H.h.run (λG hl=>bF (x:=0) (by decide) ((DV.mk h70).le hl)) λ_ K F hr l h=> ?_;have H:=H.up l h;have h70:=h70.le l;obtain ⟨_,rfl,hw⟩:=hr;obtain ⟨m71,rfl,h71⟩:=hw.out;refine ⟨_,rfl,?_⟩;refine ⟨H.row,?_⟩;refine ⟨H.row,?_⟩;exact Es H h71
end
theorem nG (F:PH):ν 129 #[] F λr F'=>(∃w,r=ZU w/\GV F' w cI)/\F.le F':=by
 refine Ss ?_;unfold MN;refine gX F [⟨#[69]⟩] rfl rfl λb0 b1 F1 h=> ?_;refine h.allv λb2 K1 F2 n l1 q hn h=> ?_;refine h.rule3 (eL 0) (de 1) (eL 0) (by decide) λF2 h=> ?_;refine h.rule3 (eL 0) (de 2) (eL 0) (by decide) λF2 h=> ?_;refine h.rule3 (de 3) (eL 0) (de 4) (by decide) λF2 h=> ?_;refine h.rule1 (de 0) (by decide) λF2 h=> ?_;refine h.rule3 (eL 0) (de 8) (eL 0) (by decide) λF2 h=> ?_;refine h.brk 2 rfl λF2 h=> ?_;refine h.cnd 4 rfl 1 (by decide) λF2 h=> ?_;refine ⟨_,rfl,ac (h.le _ _ q),_,rfl,ac (h.le _ _ q),?_⟩;have H:EK F _ _ b0 b1 b2 n:=⟨h,l1,q,hn⟩;refine ⟨?_,?_,?_,?_⟩
 ·refine H.h.new λb63 K F l q63 h=> ?_;have H:=H.up l h;exact Gi H q63
 ·refine H.h.new λb66 K F l q66 h=> ?_;have H:=H.up l h;exact Ee H q66
 ·refine H.h.new λb69 K F l q69 h=> ?_;have H:=H.up l h;exact El H q69
 ·refine H.h.run (λG _=>aN 0 (by decide) G) λ_ K F hr l h=> ?_;have H:=H.up l h;obtain ⟨_,rfl,hw⟩:=hr;obtain ⟨m70,rfl,h70⟩:=hw.out;refine ⟨_,rfl,?_⟩;refine ⟨H.row,?_⟩;refine ⟨H.row,?_⟩;exact Et H h70
def cq (k:Nat):Gr:=if k=0 then cI else if k=1 then co else if k=2 then dq else if k=3 then jR else if k=4 then gY else gZ
theorem zW (k:Nat) (F:PH):ν 80 #[Z0 .u8 (k:Int)] F λr F'=>(∃w,r=ZU w/\GV F' w (cq (k % 6)))/\F.le F':=by
 refine WF ?_;unfold Sa;refine (St.start F).new λb F1 h=> ?_;have e:Z5 (k:Int) 6=((k % 6:Nat):Int):=by rw [YI (by omega)];omega
 rw [e];have hk:k % 6<6:=YT _ (by decide);generalize k % 6=j at*;have fin:∀{v:ξ} {G F1:PH},F.le G->(∃w,v=ZU w/\GV G w (cq j))->St G F1 [pt b (ZP zG 37)]->∃w:Γ,v=ZU w/\aw F1 (ZX b 0 ZR) 9 w λF2=>∃w:Γ,w.size=9/\F2.row (ZX b 0 ZR) w/\((∃w',ZU w=ZU w'/\GV F2 w' (cq j))/\F.le F2):=λ{v G F1} hl hv h=>by obtain ⟨w,rfl,hv⟩:=hv;exact ⟨w,rfl,h.put0 (w':=w) hv.size rfl hv.st λF2 h=>⟨w,hv.size,h.whole0,⟨w,rfl,hv.le h.le⟩,aa hl h.le⟩⟩
 refine ⟨λh0=> ?_,λh0=>⟨λh1=> ?_,λh1=>⟨λh2=> ?_,λh2=>⟨λh3=> ?_,λh3=>⟨λh4=> ?_,λh4=> ?_⟩⟩⟩⟩⟩
 ·obtain rfl:j=0:=by omega
  exact h.run (nG _) λ_ G F2 hr l h=>fin l hr h
 ·obtain rfl:j=1:=by omega
  exact h.run (pd _) λ_ G F2 hr l h=>fin l hr h
 ·obtain rfl:j=2:=by omega
  exact h.run (lK _) λ_ G F2 hr l h=>fin l hr h
 ·obtain rfl:j=3:=by omega
  exact h.run (xY _) λ_ G F2 hr l h=>fin l hr h
 ·obtain rfl:j=4:=by omega
  exact h.run (vL _) λ_ G F2 hr l h=>fin l hr h
 ·obtain rfl:j=5:=by omega
  exact h.run (vK _) λ_ G F2 hr l h=>fin l hr h
def ji (b n:Nat):Tr:=if n=0\/b % 6<3 then ZL ZT else if b % 6=3 then tv (b / 6 % n) else if b % 6=4 then ap2 kV (tv (b / 6 % n)) (ZL ZT) else jj [(b:Int)] n 0 0
theorem x7 {n:Nat} (h:n<256):u8.wrap (n:Int)=n:=by simp only [IntKind.wrap,IntKind.bits,IntKind.signed,Bool.false_and,Yn,if_false];omega
theorem vN {F G F1:PH} {b:Nat} {As:List (Ψ)} {w c:Γ} {d:Dia} {P:Prop} (h:St G F1 (pt b (ZP c 31)::As)) (hc:c.size=2) (hw:DV G w d) (hl:F.le G) (hp:P):
  aw F1 (ZX b 0 ZR) 2 w λF2=>∃v:Γ,v.size=2/\F2.row (ZX b 0 ZR) v/\((lI d (ZU v) F2/\P)/\F.le F2):=by
 obtain ⟨n,rfl,hn⟩:=hw.out;refine h.put0 (w':= #[n.v,vi d.2]) rfl hc (by simp [am,ZS]) λF2 h=> ?_;exact ⟨_,rfl,h.whole0,⟨⟨_,rfl,DV.mk (hn.le h.le)⟩,hp⟩,aa hl h.le⟩
theorem rc (b n:Nat) (hb:b<256) (hn:n<=6) (F:PH):ν 33 #[Z0 .u8 (b:Int),vi n] F λr F'=>(lI (dia (ji b n)) r F'/\Sx n (ji b n))/\F.le F':=by
 refine WA ?_;unfold R1;refine (St.start F).new λb4 F1 h=> ?_;have em:Z5 (b:Int) 6=((b % 6:Nat):Int):=by rw [YI (by omega)];omega
 have j1:∀q:Bool,(n=0->q=ZT)->(n≠0->q=decide (b % 6<3))->wc (b:Int) (n:Int) b4 q (λr F'=>(lI (dia (ji b n)) r F'/\Sx n (ji b n))/\F.le F') F1:=λq h0 h1=>by
  unfold wc;refine ⟨λhq=> ?_,λhq=> ?_⟩
  ·have e:ji b n=ZL ZT:=by
    unfold ji;rw [Χ];by_cases hn0:n=0
    ·exact .inl hn0
    ·have:=h1 hn0;rw [hq] at this;exact .inr (ε this.symm)
   rw [e];refine h.run (gf _) λ_ G F2 hr l h=> ?_;obtain ⟨w,rfl,hw⟩:=hr;exact ⟨_,rfl,vN h rfl hw l (Sx.ZL n ZT)⟩
  ·have hn0:n≠0:=λhn0=>by rw [h0 hn0] at hq;cases hq
   have hb3:¬b % 6<3:=by have:=h1 hn0;rw [hq] at this;exact η this.symm
   have ev:Z5 (i64.wrap (u8.wrap (Int.tdiv (b:Int) 6))) (n:Int)=((b / 6 % n:Nat):Int):=by
    have e1:Int.tdiv (b:Int) 6=((b / 6:Nat):Int):=by rw [Y1 (by omega)];omega
    have e2:u8.wrap ((b / 6:Nat):Int)=((b / 6:Nat):Int):=x7 (by omega);rw [e1,e2,aR (by omega),YI (by omega)];exact (Int.natCast_emod _ _).symm
   have hvn:b / 6 % n<n:=YT _ (by omega);refine ⟨by omega,?_⟩;rw [ev,em];generalize hx:b / 6 % n=x at*;refine h.run (aN x (by omega) _) λ_ G F2 hr l h=> ?_;obtain ⟨w,rfl,hw⟩:=hr;obtain ⟨m,rfl,hm⟩:=hw.out;refine ⟨_,rfl,?_⟩;refine h.new λb5 F3 h=> ?_;refine h.put0 (w':= #[m.v,vi (dia (tv x)).2]) rfl rfl (by simp [am,ZS]) λF4 h=> ?_;have kx:Sx n (tv x):=Sx.tv hvn hn;refine ⟨λh3=> ?_,λh3=>⟨λh4=> ?_,λh4=> ?_⟩⟩
   ·have e:ji b n=tv x:=by unfold ji;rw [Υ (by omega),Χ (by omega),hx]
    rw [e];refine ⟨_,rfl,h.whole0,?_⟩;have h:=h.swap;exact vN h rfl (DV.mk hm) l kx
   ·have e:ji b n=ap2 kV (tv x) (ZL ZT):=by unfold ji;rw [Υ (by omega),Υ (by omega),Χ (by omega),hx]
    rw [e];refine ⟨_,rfl,h.whole0,?_⟩;refine h.run (bF (x:=x) (by omega) (DV.mk hm)) λ_ G2 F5 hr l2 h=> ?_;obtain ⟨w,rfl,hw⟩:=hr;refine ⟨_,rfl,?_⟩;have h:=h.swap;exact vN h rfl hw (aa l l2) (kx.ap2 (Sx.ZL n ZT))
   ·have e:ji b n=jj [(b:Int)] n 0 0:=by unfold ji;rw [Υ (by omega),Υ (by omega),Υ (by omega)]
    rw [e];refine h.newG λb30 G2 F5 l2 q _ h=> ?_;have hr:RdS G2 (Z4 (ZO (ZX b30 0 ZR)) 1 1) 1 ([(b:Int)].map (Z0 .u8)):=RdS.new q rfl rfl (XS _);refine h.run (P:=λr G=>(∃u,r=ZU u/\DV G u (dia (jj [(b:Int)] n 0 0)))/\Sx n (jj [(b:Int)] n 0 0)) ((oO hn hr).mono λr F' ⟨u,t,h1,⟨h2,h3⟩,h4,h5⟩=>⟨⟨⟨u,h1,h3▸h4⟩,h3▸h2⟩,h5⟩) λ_ G3 F6 hr l3 h=> ?_;obtain ⟨⟨w,rfl,hw⟩,hs⟩:=hr;refine ⟨_,rfl,?_⟩;have h:=h.swap;exact vN h rfl hw (aa l (aa l2 l3)) hs
 refine ⟨λh0=>j1 ZT (λ_=>rfl) (λhn=>absurd (by omega) hn),λh0=>j1 _ (λhn=>absurd (by omega) h0) (λ_=> ?_)⟩;rw [em];exact decide_eq_decide.2 (by omega)
open Classical in
def rg (p:Pr):Bool:=decide (yl p)
theorem lL {F:PH} {w:Γ} {p:Pr} (hw:Mem.rep F p w) (_:p.right.length<=1000):ν 171 #[ZU w] F λr F'=>r=ZV (rg p)/\F.le F':=by
 obtain ⟨s,n,l,rfl,h1,h2,h3⟩:=hw;have e1:=h1.len;have e3:=h3.len;have no:∀{F1:PH},F.le F1->¬yl p->(ZV ZQ=ZV (rg p)/\F.le F1):=λhl hn=>⟨by unfold rg;simp [hn],hl⟩;have sy:∀{F1:PH},F.le F1->∀i:Nat,i<p.right.length->∃(a:Addr) (x:Sy),s.ZK=ZO a/\p.right[i]? =ZO x/\F1.cell (ZW a (ZY (i:Int)*2))=ZO (ZV x.t)/\F1.cell (ZW (ZW a (ZY (i:Int)*2)) 1)=ZO (vi x.i):=λhl i hi=>by obtain ⟨a,c,ha,hrow,hc⟩:=(h1.le hl).get (by decide) (N6 hi);cases hc;rw [N5];exact ⟨a,_,ha,N6 hi,aS hrow rfl,aZ hrow rfl⟩
 refine SP ?_;unfold M5;refine (St.start F).newG λb1 G1 F1 l1 q _ h=> ?_;have q:=h.le _ _ q;have lF:=aa l1 h.le;refine ⟨_,ld q rfl,λhc=>no lF λhp=>hc (by rw [e1,hp.1];rfl),λhc=>⟨_,ld q rfl,λhk=>no lF λhp=>hk hp.2.1,λhk=>⟨_,ld q rfl,λhy=>no lF λhp=> ?_,λhy=>⟨p.sco.arr,rfl,iM q rfl,decide (p.sco=rD),λF=>MD p.sco rD F,λhs=>no lF λhp=> ?_,λhs=> ?_⟩⟩⟩⟩
 ·rw [e3,hp.2.2.1] at hy;simp at hy
 ·rw [ζ hp.2.2.2.1] at hs;cases hs
 have hc:p.right.length=3:=by omega
 have hs:p.sco=rD:=by simpa using hs
 have hlay:p.lay=[]:=X9 (by omega);have hrk:p.rank=0:=Classical.not_not.1 hk;obtain ⟨a,x0,ha,hx0,c0,_⟩:=sy lF 0 (by omega);obtain ⟨_,x1,ha1,hx1,c1,d1⟩:=sy lF 1 (by omega);obtain ⟨_,x2,ha2,hx2,c2,_⟩:=sy lF 2 (by omega);rw [ha] at ha1 ha2;cases ha1;cases ha2;refine ⟨_,ld q rfl,a,ha,by decide,by omega,x0.t,c0,λt0=>⟨_,ld q rfl,a,ha,by decide,by omega,x2.t,c2,λt2=>⟨_,ld q rfl,a,ha,by decide,by omega,x1.t,c1,λt1=>⟨_,ld q rfl,a,ha,by decide,by omega,x1.i,d1,p.left,ld q rfl,?_,lF⟩,λt1=>no lF λhp=> ?_⟩,λt2=>no lF λhp=> ?_⟩,λt0=>no lF λhp=> ?_⟩
 ·have t1:x1.t=ZQ:=by simpa using t1
  unfold rg;congr 1;refine decide_eq_decide.2 ⟨λh=>⟨hc,hrk,hlay,hs,⟨x0,hx0,t0⟩,?_,⟨x2,hx2,t2⟩⟩,λhp=> ?_⟩
  ·rw [hx1,<- h,<- t1]
  ·have:=hp.2.2.2.2.2.1;rw [hx1] at this;cases this;rfl
 ·have:=hp.2.2.2.2.2.1;rw [hx1] at this;cases this;cases t1
 ·obtain ⟨y,hy,ht⟩:=hp.2.2.2.2.2.2;rw [hx2] at hy;cases hy;rw [ht] at t2;cases t2
 ·obtain ⟨y,hy,ht⟩:=hp.2.2.2.2.1;rw [hx0] at hy;cases hy;rw [ht] at t0;cases t0
def cG (p:Pr) (m:Nat):Pr:=
 if p.right.length=0 then p else
 if m % 8=1 then {p with rank:=1} else
 if m % 8=2 then {p with rank:= -1} else
 if m % 8=3 then {p with brk:=rg p} else
 if m % 8=4 then {p with lay:=[⟨((1+m / 8 % 4:Nat):Int),((m / 8 / 4 % p.right.length:Nat):Int),if m / 8 % 4=0 then 0 else ((p.right.length - 1:Nat):Int)⟩]} else
 if m % 8=5 then {p with sco:={p.sco with o:=ZT}} else
 if m % 8=6 then (if (p.right.getD (m / 8 % p.right.length) ⟨ZQ,0⟩).t=ZT then {p with sco:=⟨ZQ,((m / 8 % p.right.length+1:Nat):Int),((1+m / 8 % 2:Nat):Int),0,0⟩} else p) else
 if m % 8=7 then (if (p.right.getD (m / 8 % p.right.length) ⟨ZQ,0⟩).t=ZT then {p with sco:=⟨ZQ,0,0,((m / 8 % p.right.length+1:Nat):Int),((1+m / 8 % 7:Nat):Int)⟩} else p) else p
abbrev z13:Γ:= #[Z1 ⟨#[]⟩,Z0 .i64 0,.slice ZR 0 0,.slice ZR 0 0,.int .i64 0,.bool ZQ,Z0 .i64 0,.slice ZR 0 0,.bool ZQ,Z0 .i64 0,.int .i64 0,.int .i64 0,.int .i64 0]
theorem x8 {F:PH} {w:Γ} {p:Pr} {m:Nat} (hw:Mem.rep F p w) (hm:m<256) (hb:p.right.length<=1000):ν 136 #[ZU w,Z0 .u8 (m:Int)] F λr F'=>(∃w',r=ZU w'/\Mem.rep F' (cG p m) w')/\F.le F':=by
 obtain ⟨s,n,l,rfl,h1,h2,h3⟩:=hw;have e1:s.len=p.right.length:=h1.len;refine SD ?_;unfold MT;refine (St.start F).new λb2 F1 h=> ?_;refine h.new λb4 F2 h=> ?_;have e8:Z5 (m:Int) 8=((m % 8:Nat):Int):=by rw [YI (by omega)];omega
 have ek:i64.wrap (u8.wrap (Int.tdiv (m:Int) 8))=((m / 8:Nat):Int):=by rw [Y1 (by omega),show (m:Int) / 8=((m / 8:Nat):Int) by omega,x7 (by omega),aR (by omega)]
 have tm:∀a b:Nat,Z5 (a:Int) (b:Int)=((a % b:Nat):Int):=λa b=>by rw [YI (by omega)];exact (Int.natCast_emod _ _).symm
 have fin:∀{G F1:PH} {p':Pr} {l':Sl},F.le G->p'=cG p m->p'.right=p.right->p'.cond=p.cond->RL G l' p'.lay->St G F1 [pt b4 (ZP z13 55),pt b2 (ZP (p'.arr s n l') 55)]->dN b2 b4 (λr F'=>(∃w',r=ZU w'/\Mem.rep F' (cG p m) w')/\F.le F') F1:=λ{G F1 p' l'} hl hp hr hc hl' h=>by unfold dN;refine ⟨_,rfl,h.whole1,?_⟩;refine h.put0 (w':=p'.arr s n l') rfl rfl (by simp [am,ZS]) λF3 h=> ?_;have lF:=aa hl h.le;exact ⟨_,rfl,h.whole0,⟨_,rfl,hp▸⟨s,n,l',rfl,by rw [hr];exact h1.le lF,by rw [hc];exact h2.le lF,hl'.le h.le⟩⟩,lF⟩
 refine ⟨_,h.ld1 rfl,λh0=> ?_,λh0=> ?_⟩
 ·have e:cG p m=p:=by unfold cG;rw [Χ (by omega)]
  refine ⟨_,rfl,h.whole1,?_⟩;refine h.put0 (w':=p.arr s n l) rfl rfl (by simp [am,ZS]) λF3 h=> ?_;exact ⟨_,rfl,h.whole0,⟨_,rfl,by rw [e];exact ⟨s,n,l,rfl,h1.le h.le,h2.le h.le,h3.le h.le⟩⟩,h.le⟩
 have hn0:p.right.length≠0:=λh=>h0 (by rw [e1,h];rfl);have hn1:s.len≠0:=by omega
 rw [e8,ek];refine ⟨λc1=> ?_,λc1=>⟨λc2=> ?_,λc2=>⟨λc3=> ?_,λc3=>⟨λc4=> ?_,λc4=>⟨λc5=> ?_,λc5=>⟨λc6=> ?_,λc6=>⟨λc7=> ?_,λc7=> ?_⟩⟩⟩⟩⟩⟩⟩
 ·refine h.set1 (w':=Pr.arr {p with rank:=1} s n l) (Z8 rfl) rfl λF3 h=> ?_;exact fin (p':={p with rank:=1}) (al _) (by unfold cG;rw [Υ hn0,Χ (by omega)]) rfl rfl h3 h
 ·refine h.set1 (w':=Pr.arr {p with rank:= -1} s n l) (Z8 rfl) rfl λF3 h=> ?_;exact fin (p':={p with rank:= -1}) (al _) (by unfold cG;rw [Υ hn0,Υ (by omega),Χ (by omega)]) rfl rfl h3 h
 ·refine h.set1 (w':=Pr.arr {p with brk:=ZT} s n l) (Z8 rfl) rfl λF3 h=> ?_;refine ⟨_,rfl,h.whole1,?_⟩;refine h.runv (lL (p:={p with brk:=ZT}) ⟨s,n,l,rfl,h1,h2,h3⟩ hb) λG F4 l4 h=> ?_;refine ⟨_,rfl,?_⟩;refine h.set1 (w':=Pr.arr {p with brk:=rg p} s n l) (Z8 rfl) rfl λF5 h=> ?_;exact fin (p':={p with brk:=rg p}) l4 (by unfold cG;rw [Υ hn0,Υ (by omega),Υ (by omega),Χ (by omega)]) rfl rfl (h3.le l4) h
 ·have k4:Z5 ((m / 8:Nat):Int) 4=((m / 8 % 4:Nat):Int):=tm _ 4;have d4:i64.wrap (Int.tdiv ((m / 8:Nat):Int) 4)=((m / 8 / 4:Nat):Int):=by rw [Y1 (by omega),aR (by omega)];omega
  have x1:i64.wrap ((1:Int)+((m / 8 % 4:Nat):Int))=((1+m / 8 % 4:Nat):Int):=by rw [aR (by omega)];omega
  have x3:i64.wrap ((s.len:Int) - 1)=((p.right.length - 1:Nat):Int):=by rw [aR (by omega)];omega
  rw [k4,d4,tm,x1,x3,e1];refine ⟨by omega,rfl,?_⟩;refine h.new λb42 F3 h=> ?_;refine h.set2 (w':=Pr.arr p s n (Z4 (ZO (ZX b42 0 ZR)) 1 1)) (Z8 rfl) rfl λF4 h=> ?_;refine ⟨λhk=> ?_,λhk=> ?_⟩
  ·refine ⟨_,h.ld2 rfl,_,rfl,by decide,(by show (0:Int)<1;decide),?_⟩;simp only [aG];refine h.set0 (i:=2) (w':=Cn.arr ⟨((1+m / 8 % 4:Nat):Int),((m / 8 / 4 % p.right.length:Nat):Int),0⟩) (Z8 rfl) rfl λF5 h=> ?_;obtain ⟨G,l5,⟨H,hA,hH⟩,h⟩:=h.pin;exact fin (p':={p with lay:=[⟨((1+m / 8 % 4:Nat):Int),((m / 8 / 4 % p.right.length:Nat):Int),0⟩]}) l5 (by unfold cG;rw [Υ hn0,Υ (by omega),Υ (by omega),Υ (by omega),Χ (by omega),Χ (by omega)]) rfl rfl (zV (hH _ _ hA)) h
  ·obtain ⟨G,l5,⟨H,hA,hH⟩,h⟩:=h.pin;exact fin (p':={p with lay:=[⟨((1+m / 8 % 4:Nat):Int),((m / 8 / 4 % p.right.length:Nat):Int),((p.right.length - 1:Nat):Int)⟩]}) l5 (by unfold cG;rw [Υ hn0,Υ (by omega),Υ (by omega),Υ (by omega),Χ (by omega),Υ (by omega)]) rfl rfl (zV (x:=⟨((1+m / 8 % 4:Nat):Int),((m / 8 / 4 % p.right.length:Nat):Int),((p.right.length - 1:Nat):Int)⟩) (hH _ _ hA)) h
 ·refine h.set1 (w':=Pr.arr {p with sco:={p.sco with o:=ZT}} s n l) (Z8 rfl) rfl λF3 h=> ?_;exact fin (p':={p with sco:={p.sco with o:=ZT}}) (al _) (by unfold cG;rw [Υ hn0,Υ (by omega),Υ (by omega),Υ (by omega),Υ (by omega),Χ (by omega)]) rfl rfl h3 h
 ·refine ⟨_,h.ld1 rfl,by omega,?_⟩;have hlt:m / 8 % p.right.length<p.right.length:=YT _ (by omega);have hx:=N6 hlt;obtain ⟨a,c,ha,hrow,hc⟩:=(h1.le h.le).get (by decide) hx;cases hc;rw [tm,e1];have kw:((p.right.length:Nat):Int)≠0:=by omega
  have gd:p.right.getD (m / 8 % p.right.length) ⟨ZQ,0⟩=p.right[m / 8 % p.right.length]:=by rw [Yg,hx];rfl
  have k2:Z5 ((m / 8:Nat):Int) 2=((m / 8 % 2:Nat):Int):=tm _ 2;have x1:i64.wrap ((1:Int)+((m / 8 % 2:Nat):Int))=((1+m / 8 % 2:Nat):Int):=by rw [aR (by omega)];omega
  have x3:i64.wrap (((m / 8 % p.right.length:Nat):Int)+1)=((m / 8 % p.right.length+1:Nat):Int):=by rw [aR (by omega)];omega
  rw [k2,x1,x3];refine ⟨a,ha,by omega,by omega,_,by rw [N5];exact aS hrow rfl,λht=>⟨kw,?_⟩,λht=> ?_⟩
  ·refine h.putR1 (w':=Pr.arr {p with sco:=⟨ZQ,((m / 8 % p.right.length+1:Nat):Int),((1+m / 8 % 2:Nat):Int),0,0⟩} s n l) rfl (by simp [am]) (by show 8+5<=13;decide) rfl λF3 h=> ?_;exact fin (p':={p with sco:=⟨ZQ,((m / 8 % p.right.length+1:Nat):Int),((1+m / 8 % 2:Nat):Int),0,0⟩}) (al _) (by unfold cG;rw [Υ hn0,Υ (by omega),Υ (by omega),Υ (by omega),Υ (by omega),Υ (by omega),Χ (by omega),Χ (by rw [gd];exact ht)]) rfl rfl h3 h
  ·exact fin (p':=p) (al _) (by unfold cG;rw [Υ hn0,Υ (by omega),Υ (by omega),Υ (by omega),Υ (by omega),Υ (by omega),Χ (by omega),Υ (by rw [gd,ht];decide)]) rfl rfl h3 h
 ·refine ⟨_,h.ld1 rfl,by omega,?_⟩;have hlt:m / 8 % p.right.length<p.right.length:=YT _ (by omega);have hx:=N6 hlt;obtain ⟨a,c,ha,hrow,hc⟩:=(h1.le h.le).get (by decide) hx;cases hc;rw [tm,e1];have kw:((p.right.length:Nat):Int)≠0:=by omega
  have gd:p.right.getD (m / 8 % p.right.length) ⟨ZQ,0⟩=p.right[m / 8 % p.right.length]:=by rw [Yg,hx];rfl
  have k7:Z5 ((m / 8:Nat):Int) 7=((m / 8 % 7:Nat):Int):=tm _ 7;have x1:i64.wrap ((1:Int)+((m / 8 % 7:Nat):Int))=((1+m / 8 % 7:Nat):Int):=by rw [aR (by omega)];omega
  have x3:i64.wrap (((m / 8 % p.right.length:Nat):Int)+1)=((m / 8 % p.right.length+1:Nat):Int):=by rw [aR (by omega)];omega
  rw [k7,x1,x3];refine ⟨a,ha,by omega,by omega,_,by rw [N5];exact aS hrow rfl,λht=>⟨kw,?_⟩,λht=> ?_⟩
  ·refine h.putR1 (w':=Pr.arr {p with sco:=⟨ZQ,0,0,((m / 8 % p.right.length+1:Nat):Int),((1+m / 8 % 7:Nat):Int)⟩} s n l) rfl (by simp [am]) (by show 8+5<=13;decide) rfl λF3 h=> ?_;exact fin (p':={p with sco:=⟨ZQ,0,0,((m / 8 % p.right.length+1:Nat):Int),((1+m / 8 % 7:Nat):Int)⟩}) (al _) (by unfold cG;rw [Υ hn0,Υ (by omega),Υ (by omega),Υ (by omega),Υ (by omega),Υ (by omega),Υ (by omega),Χ (by omega),Χ (by rw [gd];exact ht)]) rfl rfl h3 h
  ·exact fin (p':=p) (al _) (by unfold cG;rw [Υ hn0,Υ (by omega),Υ (by omega),Υ (by omega),Υ (by omega),Υ (by omega),Υ (by omega),Χ (by omega),Υ (by rw [gd,ht];decide)]) rfl rfl h3 h
 ·exact fin (p':=p) (al _) (by unfold cG;rw [Υ hn0,Υ (by omega),Υ (by omega),Υ (by omega),Υ (by omega),Υ (by omega),Υ (by omega),Υ (by omega)]) rfl rfl h3 h
theorem eY {b e n:Nat} {H:PH} (h:H b=ZO (ZP #[] e)):own (Z4 (ZO (ZX b 0 ZR)) 0 0) e n [] H:=.inr ⟨b,#[],rfl,h,by simp,XS _,by simp,by simp⟩
section
variable {α:Type} [Mem α] {G F:PH} {As:List (Ψ)} {t e bytes n:Nat} {z:ξ} {x:List α} {y:α} {sx:Sl} {w:Γ}
theorem St.grow2 (T:SlT t e (Mem.n α) bytes z) {vs:List Γ} {s:Sl} (h:St G F (own s e (Mem.n α) (cat vs)::As)) (hr:df G x vs) (hy:Mem.rep G y w) {sw:Sl} (hw:RdS G sw (Mem.n α) w.toList) (hs:s.len=x.length) (hsw:sw.len=1) (hl:x.length<=1000000) {C:Sl->Ψ}
  (k:∀s' G' F',G.le G'->RL G' s' (x++[y])->St G' F' As->C s' F'):
  aH prog (Builtin.append_ #[t,t] t #[ZS s,ZS sw]) F λv F=>∃s2:Sl,v=ZS s2/\C s2 F:=by
 refine h.app0 T (hw.le h.le) (Mem.st hy) (by omega) λs2 F2 h2 hl2=> ?_;refine h2.pinOwn (K:=C s2) λG2 l2 hrd h3=>k s2 G2 F2 l2 ⟨vs++[w],(hr.le l2).append (.cons (Mem.le l2 hy) .nil),?_⟩ h3;rw [bR,cL];exact hrd
theorem zX {b:Nat} (q:G b=ZO (ZP w e)) (hw:w.size=n):RdS G (Z4 (ZO (ZX b 0 ZR)) 1 1) n w.toList:=RdS.new q (XY (by rw [XU,hw,Zk];exact XS _)) (by rw [XU,hw,Zk]) (XS _)
theorem St.grow (T:SlT t e (Mem.n α) bytes z) (h:St G F As) (hx:RL G sx x) (hy:Mem.rep G y w) (hl:x.length<=1000000) (hn:Mem.n α=n) {Q:Ψ} (hq:∀G' F',St G' F' As->Q F') {C:Sl->Ψ}
    (k:∀s' G' F',G.le G'->RL G' s' (x++[y])->St G' F' As->C s' F'):
    ((∀b1,F b1=ZR->atF (F.set b1 (ZP #[] e)) λF=>
      ((aH prog (Builtin.append_ #[t,t] t #[ZS (Z4 (ZO (ZX b1 0 ZR)) 0 0),ZS sx]) F λv F=>∃s1:Sl,v=ZS s1/\Q F/\w.size=n/\∀b2,F b2=ZR->atF (F.set b2 (ZP w e)) λF=>
        aH prog (Builtin.append_ #[t,t] t #[ZS s1,ZS (Z4 (ZO (ZX b2 0 ZR)) 1 1)]) F λv F=>∃s2:Sl,v=ZS s2/\C s2 F)/\
       (w.size=n/\∀b2,F b2=ZR->atF (F.set b2 (ZP w e)) λF=>
        aH prog (Builtin.append_ #[t,t] t #[ZS (Z4 (ZO (ZX b1 0 ZR)) 0 0),ZS sx]) F λv F=>∃s1:Sl,v=ZS s1/\
        aH prog (Builtin.append_ #[t,t] t #[ZS s1,ZS (Z4 (ZO (ZX b2 0 ZR)) 1 1)]) F λv F=>∃s2:Sl,v=ZS s2/\C s2 F)))/\
     (w.size=n/\∀b2,F b2=ZR->atF (F.set b2 (ZP w e)) λF=>∀b1,F b1=ZR->atF (F.set b1 (ZP #[] e)) λF=>
        aH prog (Builtin.append_ #[t,t] t #[ZS (Z4 (ZO (ZX b1 0 ZR)) 0 0),ZS sx]) F λv F=>∃s1:Sl,v=ZS s1/\
        aH prog (Builtin.append_ #[t,t] t #[ZS s1,ZS (Z4 (ZO (ZX b2 0 ZR)) 1 1)]) F λv F=>∃s2:Sl,v=ZS s2/\C s2 F)):=by
  subst hn;have hsx:=hx.len T.hn;obtain ⟨vs,hr,hrd⟩:=hx;have hwn:=Mem.len hy;have e0:∀s1:Sl,s1.len=(Z4 (ZO (ZX 0 0 ZR)) 0 0).len+sx.len->s1.len=x.length:=λs1 h=>by rw [h];show 0+sx.len=_;omega
  refine ⟨?_,?_⟩
  · refine h.new λb1 F1 h=> ?_
    have h:=h.imp (A':=own (Z4 (ZO (ZX b1 0 ZR)) 0 0) e (Mem.n α) []) 0 rfl λH _ hH=>eY hH;refine ⟨?_,hwn,?_⟩
    · refine St.app0 T h (hrd.le h.le) hr.st (by show 0+sx.len<=_;omega) λs1 F2 h hl1=>⟨hq _ _ h.tail,hwn,?_⟩
      rw [Yu] at h;refine h.newG λb2 G2 F3 l2 q _ h=> ?_;exact St.grow2 T h (hr.le l2) (Mem.le l2 hy) (zX q hwn) (e0 s1 hl1) rfl hl λs' G' F' l'=>k s' G' F' (aa l2 l')
    · refine h.newG λb2 G2 F3 l2 q _ h=> ?_
      refine St.app0 T h ((hrd.le l2).le h.le) hr.st (by show 0+sx.len<=_;omega) λs1 F2 h hl1=> ?_;rw [Yu] at h;exact St.grow2 T h (hr.le l2) (Mem.le l2 hy) (zX q hwn) (e0 s1 hl1) rfl hl λs' G' F' l'=>k s' G' F' (aa l2 l')
  · refine ⟨hwn,?_⟩
    refine h.newG λb2 G2 F3 l2 q _ h=> ?_;refine h.new λb1 F1 h=> ?_;have h:=h.imp (A':=own (Z4 (ZO (ZX b1 0 ZR)) 0 0) e (Mem.n α) []) 0 rfl λH _ hH=>eY hH;refine St.app0 T h ((hrd.le l2).le h.le) hr.st (by show 0+sx.len<=_;omega) λs1 F2 h hl1=> ?_;rw [Yu] at h;exact St.grow2 T h (hr.le l2) (Mem.le l2 hy) (zX q hwn) (e0 s1 hl1) rfl hl λs' G' F' l'=>k s' G' F' (aa l2 l')
end
theorem iD {F:PH} {P:Program} {b n:Nat} {e:TypeId} (q:F b=ZO (ZP #[vB n] e)):rdo P (Conv.bytesToString (ZS (Z4 (ZO (ZX b 0 ZR)) 1 1))) F (Z1 ⟨#[UInt8.ofNat n]⟩):=by
 have h:RdS F (Z4 (ZO (ZX b 0 ZR)) 1 1) 1 [vB n]:=RdS.new q rfl rfl (XS _);unfold Conv.bytesToString ZS;simp only [ak];refine ⟨#[vB n],?_,?_⟩
 ·have hr:=h.row (a:=ZX b 0 ZR) rfl 0 #[vB n] (by simp);rw [show (ZX b 0 ZR).add 0=ZX b 0 ZR from rfl] at hr;exact fq (P:=P) hr
 ·refine ⟨ByteArray.empty.push (UInt8.ofNat n),?_,?_⟩
  ·rw [<- Array.forIn_toList];simp []
  ·show (Z1 _)=_;simp [ByteArray.empty,ByteArray.emptyWithCapacity,ByteArray.push];rfl
structure Ln where
 left:Nat
 right:Δ
 cond:Nat
 mark:Nat
instance:Mem Ln where
 n:=4
 rep F x c:=∃r:Sl,c= #[vB x.left,r.v,vB x.cond,vB x.mark]/\RdS F r 1 (x.right.map vB)/\x.left<256/\x.cond<256/\x.mark<256/\∀y∈x.right,y<256
 len h:=by obtain ⟨r,rfl,_⟩:=h;rfl
 le hl h:=by obtain ⟨r,h1,h2,h3⟩:=h;exact ⟨r,h1,h2.le hl,h3⟩
 st h:=by obtain ⟨r,rfl,_⟩:=h;simp [am,ZS]
theorem kT (nm:ο) (left:Int) {s:Sl} {F:PH}:ν 81 #[Z1 nm,vi left,s.v] F λr F'=>(∃n,r=ZU ((bH nm left []).arr s n Z3)/\RL F' n aM.1)/\F.le F':=by refine Sc ?_;unfold OV;refine (St.start F).new λb F1 h=> ?_;refine h.run (gf _) λ_ G F2 hr l h=> ?_;obtain ⟨w,rfl,hw⟩:=hr;obtain ⟨n,rfl,hn⟩:=hw.out;refine ⟨_,rfl,rfl,?_⟩;refine h.put0 (w':=(bH nm left []).arr s n Z3) rfl rfl (by simp [am,ZS]) λF2 h=> ?_;exact ⟨_,rfl,h.whole0,⟨n,rfl,hn.le h.le⟩,aa l h.le⟩
def lM (nn b:Nat):Sy:=if b % 14<9 then ⟨ZT,((b % 14:Nat):Int)⟩ else ⟨ZQ,(((b % 14 - 9) % nn:Nat):Int)⟩
def aO (nn:Nat) (x:Ln):List Sy:=(x.right.take 4).map (lM nn)
def dT (l:List Sy):Nat:=(l.filter (·.t)).length
def dh (left:Nat) (l:List Sy):Bool:=l.all λs=>s.t || decide ((left:Int)<s.i)
def bl (k:Nat):ο:=⟨#[112]⟩++⟨#[UInt8.ofNat (97+k)]⟩
def jv (g:Gr) (x:Ln):Pr:={bH (bl g.ZG.length) ((x.left % g.ZH.length:Nat):Int) (aO g.ZH.length x) with cond:=dia (ji x.cond g.ZJ.length)}
def lineG (g:Gr) (x:Ln) (cq:Bool):Gr:=
 if dT (aO g.ZH.length x)=0/\(cq=ZT\/dh (x.left % g.ZH.length) (aO g.ZH.length x)=ZQ) then g
 else {g with ZG:=g.ZG++[cG (jv g x) x.mark]}
theorem gg (a b:Nat):Z5 (a:Int) (b:Int)=((a % b:Nat):Int):=by rw [YI (by omega)];exact (Int.natCast_emod _ _).symm
theorem oH (l:List Sy) (s:Sy):dT (l++[s])=dT l+if s.t=ZT then 1 else 0:=by unfold dT;rw [List.filter_append,XT];congr 1;cases h:s.t<;>simp [h]
theorem lO (left:Nat) (l:List Sy) (s:Sy):dh left (l++[s])=(dh left l && (s.t || decide ((left:Int)<s.i))):=by simp [dh]
theorem Eu {G:PH} (l:List Sy):df G l (l.map Sy.arr):=by
 induction l with
 |nil=>exact .nil
 |cons x l ih=>exact .cons rfl ih
structure LK (F G:PH) (b4:Nat) (g:Gr) (x:Ln) (c n t s sp l f rx n0:Sl):Prop where
 lF:F.le G
 q4:G b4=ZO (ZP #[vB x.left,rx.v,vB x.cond,vB x.mark] 91)
 gs:GS G g c n t s sp l f
 rr:RdS G rx 1 (x.right.map vB)
 n0:RL G n0 aM.1
theorem LK.le {F G G':PH} {b4:Nat} {g:Gr} {x:Ln} {c n t s sp l f rx n0:Sl} (h:LK F G b4 g x c n t s sp l f rx n0) (hl:G.le G'):LK F G' b4 g x c n t s sp l f rx n0:=
 ⟨aa h.lF hl,hl _ _ h.q4,h.gs.le hl,h.rr.le hl,h.n0.le hl⟩
section
variable {F G F1:PH} {b3 b4 b6 b8:Nat} {g:Gr} {x:Ln} {c n t s sp l f rx n0 sr:Sl} {cq:Bool}
abbrev LR (F:PH) (g':Gr):VR:=λr F'=>(∃w,r=ZU w/\GV F' w g')/\F.le F'
theorem J5 {g':Gr} {sp':Sl} (hF:F.le G) (hg:GS G g' c n t s sp' l f) (st:St G F1 [pt b6 (ZP zG 37),pt b3 (ZP (g'.arr c n t s sp' l f) 37)]):rL b3 b6 (LR F g') F1:=by unfold rL;refine ⟨_,rfl,st.whole1,?_⟩;refine st.put0 (w':=g'.arr c n t s sp' l f) rfl rfl (by simp [am,ZS]) λF3 h=> ?_;exact ⟨_,rfl,h.whole0,⟨_,rfl,c,n,t,s,sp',l,f,rfl,hg.le h.le⟩,aa hF h.le⟩
theorem Gj (K:LK F G b4 g x c n t s sp l f rx n0) (hn:g.ZJ.length<=6) (hp:g.ZG.length<=1000) (h4:x.cond<256) (h5:x.mark<256) (hsr:RL G sr (aO g.ZH.length x))
  (st:St G F1 [pt b8 (ZP ((bH (bl g.ZG.length) ((x.left % g.ZH.length:Nat):Int) []).arr sr n0 Z3) 55),pt b6 (ZP zG 37),pt b3 (ZP (g.arr c n t s sp l f) 37)]):
  gP b3 b4 b6 (ZO (ZX b8 0 ZR)) ZQ (LR F {g with ZG:=g.ZG++[cG (jv g x) x.mark]}) F1:=by
 obtain ⟨_,_,T⟩:=OU;unfold gP;refine ⟨λhc=>(by cases hc),λ_=> ?_⟩;have ec:=K.gs.c.len;refine ⟨_,ld (st.le _ _ K.q4) rfl,_,st.ld2 rfl,?_⟩;dsimp only;rw [ec];refine st.run (rc x.cond g.ZJ.length h4 hn _) λ_ G2 F2 hr l2 st=> ?_;obtain ⟨⟨_,rfl,hw⟩,-⟩:=hr;obtain ⟨m,rfl,hm⟩:=hw.out;have K:=K.le l2;have hsr:=hsr.le l2;refine ⟨_,rfl,_,rfl,?_⟩;simp only [aG];refine st.putR0 (o:=3) (w':=(jv g x).arr sr m Z3) rfl (by simp [am,ZS]) (by show 3+2<=13;decide) rfl λF3 st=> ?_;refine ⟨_,rfl,st.whole0,_,ld (st.le _ _ K.q4) rfl,?_⟩;refine st.run (x8 (p:=jv g x) (m:=x.mark) ⟨sr,m,Z3,rfl,hsr,hm,.nil _⟩ h5 (by show (aO _ _).length<=1000;unfold aO;rw [XW,XX];omega)) λ_ G3 F4 hr l3 st=> ?_;obtain ⟨w,rfl,hw⟩:=hr;have K:=K.le l3;refine ⟨w,rfl,?_⟩;refine st.put0 (w':=w) (Mem.len hw) rfl (Mem.st hw) λF5 st=> ?_;refine ⟨_,st.ld2 rfl,w,Mem.len hw,st.whole0,?_⟩;refine St.grow T st K.gs.p hw (by omega) rfl (λG' F' st=>st.whole0) λs' G' F' l' hs' st=> ?_;have K:=K.le l';refine st.set2 (w':=Gr.arr {g with ZG:=g.ZG++[cG (jv g x) x.mark]} c n t s s' l f) (Z8 rfl) rfl λF6 st=> ?_;exact J5 (g':={g with ZG:=g.ZG++[cG (jv g x) x.mark]}) (sp':=s') K.lF ⟨K.gs.c,K.gs.n,K.gs.t,K.gs.s,hs',K.gs.l,K.gs.f⟩ st.tail
theorem Gl {p8:Θ} (K:LK F G b4 g x c n t s sp l f rx n0) (st:St G F1 [pt b6 (ZP zG 37),pt b3 (ZP (g.arr c n t s sp l f) 37)]):gP b3 b4 b6 p8 ZT (LR F g) F1:=by unfold gP;refine ⟨λ_=> ?_,λhc=>(by cases hc)⟩;refine ⟨_,rfl,st.whole1,?_⟩;refine st.put0 (w':=g.arr c n t s sp l f) rfl rfl (by simp [am,ZS]) λF3 h=> ?_;exact ⟨_,rfl,h.whole0,⟨_,rfl,c,n,t,s,sp,l,f,rfl,K.gs.le h.le⟩,aa K.lF h.le⟩
theorem J6 (K:LK F G b4 g x c n t s sp l f rx n0) (hn:g.ZJ.length<=6) (hp:g.ZG.length<=1000) (h4:x.cond<256) (h5:x.mark<256) {tk:Int} {later:Bool} (htk:tk=((dT (aO g.ZH.length x):Nat):Int)) (hla:later=dh (x.left % g.ZH.length) (aO g.ZH.length x))
  (st:St G F1 [pt b8 (ZP ((bH (bl g.ZG.length) ((x.left % g.ZH.length:Nat):Int) []).arr sr n0 Z3) 55),own sr 63 2 (cat ((aO g.ZH.length x).map Sy.arr)),pt b6 (ZP zG 37),pt b3 (ZP (g.arr c n t s sp l f) 37)]):
  rM cq b3 b4 b6 (ZO (ZX b8 0 ZR)) tk later (LR F (lineG g x cq)) F1:=by
 unfold rM;have bad:dT (aO g.ZH.length x)=0/\(cq=ZT\/dh (x.left % g.ZH.length) (aO g.ZH.length x)=ZQ)->gP b3 b4 b6 (ZO (ZX b8 0 ZR)) ZT (LR F (lineG g x cq)) F1:=λhc=>by
  have e:lineG g x cq=g:=by unfold lineG;rw [Χ hc]
  rw [e];exact Gl K st.tail.tail
 have good:¬(dT (aO g.ZH.length x)=0/\(cq=ZT\/dh (x.left % g.ZH.length) (aO g.ZH.length x)=ZQ))->gP b3 b4 b6 (ZO (ZX b8 0 ZR)) ZQ (LR F (lineG g x cq)) F1:=λhc=>by
  have e:lineG g x cq={g with ZG:=g.ZG++[cG (jv g x) x.mark]}:=by unfold lineG;rw [Υ hc]
  rw [e];refine st.front1.pinOwn (K:=λF1=>gP b3 b4 b6 (ZO (ZX b8 0 ZR)) ZQ (LR F {g with ZG:=g.ZG++[cG (jv g x) x.mark]}) F1) λG' lg hrd st=> ?_;exact Gj (K.le lg) hn hp h4 h5 ⟨_,Eu _,hrd⟩ st
 refine ⟨λh0=>⟨λhk=>bad ⟨by omega,.inl hk⟩,λhk=> ?_⟩,λh0=>good λhc=>h0 (by rw [htk,hc.1];rfl)⟩;cases hl':later with
 |true=>refine good λhc=> ?_;rw [<- hla,hl',hk] at hc;simp at hc
 |false=>exact bad ⟨by omega,.inr (by rw [<- hla,hl'])⟩
end
theorem x9 (l:List Sy) (y:Sy):cat (l.map Sy.arr)++y.arr.toList=cat ((l++[y]).map Sy.arr):=by rw [Yd,bR,Yf,List.map_nil,cL]
section
variable {F G F1:PH} {b3 b4 b6 b8:Nat} {g:Gr} {x:Ln} {c n t s sp l f rx n0 sr:Sl} {cq:Bool}
theorem J7 (K:LK F G b4 g x c n t s sp l f rx n0) (hn:g.ZJ.length<=6) (hp:g.ZG.length<=1000) (h4:x.cond<256) (h5:x.mark<256) (h6:∀y∈x.right,y<256) (hn0:g.ZH.length≠0) (_:g.ZH.length<=1000000)
  (st:St G F1 [pt b8 (ZP ((bH (bl g.ZG.length) ((x.left % g.ZH.length:Nat):Int) []).arr Z3 n0 Z3) 55),pt b6 (ZP zG 37),pt b3 (ZP (g.arr c n t s sp l f) 37)]):
  nP cq b3 b4 b6 s (ZO (ZX b8 0 ZR)) (LR F (lineG g x cq)) F1:=by
 obtain ⟨_,_,T⟩:=Ww;have es:=K.gs.s.len;have er:=K.rr.len;rw [XW,Yj] at er;unfold nP;have hL:(aO g.ZH.length x).length=min 4 x.right.length:=by unfold aO;rw [XW,XX]
 refine ⟨λm tk la i F'=>∃(k:Nat) (G':PH) (sr:Sl),i=k/\k<=(aO g.ZH.length x).length/\m=4 - k/\tk=((dT ((aO g.ZH.length x).take k):Nat):Int)/\la=dh (x.left % g.ZH.length) ((aO g.ZH.length x).take k)/\LK F G' b4 g x c n t s sp l f rx n0/\sr.len=k/\
  St G' F' [pt b8 (ZP ((bH (bl g.ZG.length) ((x.left % g.ZH.length:Nat):Int) []).arr sr n0 Z3) 55),own sr 63 2 (cat (((aO g.ZH.length x).take k).map Sy.arr)),pt b6 (ZP zG 37),pt b3 (ZP (g.arr c n t s sp l f) 37)],4,
  ⟨0,G,Z3,rfl,Zj _,rfl,rfl,rfl,K,rfl,(st.nilOwn 63 2).swap⟩,?_⟩
 rintro m tk la i F' ⟨k,G',sr,rfl,hk,rfl,rfl,rfl,K,hsr,st⟩;unfold GI;have done:k=(aO g.ZH.length x).length->rM cq b3 b4 b6 (ZO (ZX b8 0 ZR)) ((dT ((aO g.ZH.length x).take k):Nat):Int) (dh (x.left % g.ZH.length) ((aO g.ZH.length x).take k)) (LR F (lineG g x cq)) F':=λe=>by rw [e,XZ] at st ⊢;exact J6 K hn hp h4 h5 rfl rfl st
 refine ⟨_,ld (st.le _ _ K.q4) rfl,λhlt=>⟨λh4'=> ?_,λh4'=>done (by omega)⟩,λhlt=>done (by omega)⟩;have hkr:k<x.right.length:=by omega
 have hkl:k<(aO g.ZH.length x).length:=by omega
 obtain ⟨ab,ao,hab,_⟩:=K.rr.cells (by omega);have hcell:=(K.rr.le st.le).cell hab (i:=k) (by rw [XW];exact hkr);rw [List.getElem_map] at hcell;have hy6:x.right[k]<256:=h6 _ (YM hkr);have hsym:(aO g.ZH.length x)[k]? =ZO (lM g.ZH.length x.right[k]):=by unfold aO;rw [X2,Yp (by omega),N6 hkr];rfl
 have htake:(aO g.ZH.length x).take (k+1)=(aO g.ZH.length x).take k++[lM g.ZH.length x.right[k]]:=by rw [Yy,hsym];rfl
 generalize x.right[k]=y at*;have ey:Z5 (i64.wrap (y:Int)) (14:Int)=((y % 14:Nat):Int):=by rw [aR (by omega)];exact gg y 14
 refine ⟨_,ld (st.le _ _ K.q4) rfl,_,hab,by omega,hlt,(y:Int),by rw [N5,Yj];exact hcell,?_⟩;dsimp only;rw [ey];have hk1:i64.wrap ((k:Int)+1)=((k+1:Nat):Int):=aC (n:=4) (by omega) (by decide);have htl:dT ((aO g.ZH.length x).take k)<=4:=YQ (List.length_filter_le _ _) (by rw [XX];omega);refine ⟨λh9=> ?_,λh9=> ?_⟩
 ·have esy:lM g.ZH.length y=⟨ZT,((y % 14:Nat):Int)⟩:=by unfold lM;rw [Χ (by omega)]
  refine ⟨_,rfl,?_⟩;simp only [aG];refine ⟨sr,st.ld0 rfl,?_⟩;refine st.runv (kS _ _) λG2 F2 l2 st=> ?_;refine ⟨_,rfl,st.ld0 rfl,rfl,?_⟩;refine st.push1 T (c:=Sy.arr ⟨ZT,((y % 14:Nat):Int)⟩) rfl (by simp [am]) (by omega) λs' G3 F3 l3 st hl'=> ?_;rw [x9,<- esy,<- htake] at st;refine st.set0 (w':=(bH (bl g.ZG.length) ((x.left % g.ZH.length:Nat):Int) []).arr s' n0 Z3) (Z8 rfl) rfl λF4 st=> ?_;unfold rN;rw [hk1];refine ⟨4 - (k+1),by omega,k+1,G3,s',rfl,by omega,rfl,?_,?_,K.le (aa l2 l3),by omega,st⟩
  ·rw [htake,oH,esy,aR (by omega)];rfl
  ·rw [htake,lO,esy];simp
 ·have hnn:y % 14 - 9<5:=by omega
  have ez:Z5 (i64.wrap (((y % 14:Nat):Int) - (9:Int))) (s.len:Int)=(((y % 14 - 9) % g.ZH.length:Nat):Int):=by rw [es,show ((y % 14:Nat):Int) - 9=((y % 14 - 9:Nat):Int) by omega,aR (by omega),gg]
  have esy:lM g.ZH.length y=⟨ZQ,(((y % 14 - 9) % g.ZH.length:Nat):Int)⟩:=by unfold lM;rw [Υ (by omega)]
  refine ⟨_,rfl,?_⟩;simp only [aG];rw [ez];refine ⟨sr,st.ld0 rfl,by omega,?_⟩;refine st.runv (iC _ _) λG2 F2 l2 st=> ?_;refine ⟨_,rfl,st.ld0 rfl,rfl,?_⟩;refine st.push1 T (c:=Sy.arr ⟨ZQ,(((y % 14 - 9) % g.ZH.length:Nat):Int)⟩) rfl (by simp [am]) (by omega) λs' G3 F3 l3 st hl'=> ?_;rw [x9,<- esy,<- htake] at st;refine st.set0 (w':=(bH (bl g.ZG.length) ((x.left % g.ZH.length:Nat):Int) []).arr s' n0 Z3) (Z8 rfl) rfl λF4 st=> ?_;have etk:((dT ((aO g.ZH.length x).take k):Nat):Int)=((dT ((aO g.ZH.length x).take (k+1)):Nat):Int):=by rw [htake,oH,esy];rfl
  have ela:dh (x.left % g.ZH.length) ((aO g.ZH.length x).take (k+1))=(dh (x.left % g.ZH.length) ((aO g.ZH.length x).take k) && decide (((x.left % g.ZH.length:Nat):Int)<(((y % 14 - 9) % g.ZH.length:Nat):Int))):=by rw [htake,lO,esy];simp
  unfold rN;rw [hk1];refine ⟨λhla=>⟨by omega,((x.left % g.ZH.length:Nat):Int),st.ld0 rfl,4 - (k+1),by omega,k+1,G3,s',rfl,by omega,rfl,etk,?_,K.le (aa l2 l3),by omega,st⟩,λhla=>⟨4 - (k+1),by omega,k+1,G3,s',rfl,by omega,rfl,etk,?_,K.le (aa l2 l3),by omega,st⟩⟩
  ·rw [ela,hla,YY]
  ·rw [ela,hla,Bool.false_and]
end
theorem Ew {F:PH} {w v:Γ} {g:Gr} {x:Ln} {cq:Bool} (hg:GV F w g) (hx:Mem.rep F x v) (hn:g.ZJ.length<=6) (hp:g.ZG.length<=150) (hn0:g.ZH.length≠0) (hn1:g.ZH.length<=1000000):
  ν 83 #[ZU w,ZU v,ZV cq] F (LR F (lineG g x cq)):=by
 obtain ⟨c,n,t,s,sp,l,f,rfl,hs⟩:=hg;obtain ⟨rx,rfl,hr,h3,h4,h5,h6⟩:=hx;have es:=hs.s.len;have ep:=hs.p.len;refine WG ?_;unfold Sd;refine (St.start F).new λb3 F1 st=> ?_;refine st.newG λb4 G1 F2 l1 q4 _ st=> ?_;refine st.new λb6 F3 st=> ?_;have ec:u8.wrap (i64.wrap ((97:Int)+(sp.len:Int)))=((97+g.ZG.length:Nat):Int):=by rw [ep,show (97:Int)+((g.ZG.length:Nat):Int)=((97+g.ZG.length:Nat):Int) by omega,aR (by omega),x7 (by omega)]
 have el:Z5 (i64.wrap (x.left:Int)) (s.len:Int)=((x.left % g.ZH.length:Nat):Int):=by rw [es,aR (by omega),gg]
 refine ⟨_,st.ld1 rfl,_,st.ld1 rfl,_,ld (st.le _ _ q4) rfl,by omega,?_⟩;rw [ec,el];have fin:∀{G F':PH} {b8:Nat} {n0:Sl},G1.le G->RL G n0 aM.1->St G F' [pt b8 (ZP ((bH (bl g.ZG.length) ((x.left % g.ZH.length:Nat):Int) []).arr Z3 n0 Z3) 55),pt b6 (ZP zG 37),pt b3 (ZP (g.arr c n t s sp l f) 37)]->
   nP cq b3 b4 b6 s (ZO (ZX b8 0 ZR)) (LR F (lineG g x cq)) F':=λ{G F' b8 n0} hl h0 st=>
  J7 ⟨aa l1 hl,hl _ _ q4,hs.le (aa l1 hl),hr.le (aa l1 hl),h0⟩ hn (by omega) h4 h5 h6 hn0 hn1 st
 have sz2:(ByteArray.mk #[112]).size+(ByteArray.mk #[UInt8.ofNat (97+g.ZG.length)]).size<=9223372036854775807:=by show 1+1<=9223372036854775807;decide
 refine ⟨?_,?_⟩
 ·refine st.newG λb21 G2 F4 l2 q21 _ st=> ?_;refine ⟨_,iD (st.le _ _ q21),sz2,?_,?_⟩
  ·refine st.run (kT (bl g.ZG.length) _) λ_ G3 F5 hr3 l3 st=> ?_;obtain ⟨n0,rfl,h0⟩:=hr3;refine ⟨_,rfl,iD (st.le _ _ (l3 _ _ q21)),ld (st.le _ _ (l3 _ _ (l2 _ _ q4))) rfl,st.ld1 rfl,?_⟩;refine st.new λb8 F6 st=> ?_;refine st.put0 (w':=(bH (bl g.ZG.length) ((x.left % g.ZH.length:Nat):Int) []).arr Z3 n0 Z3) rfl rfl (by simp [am,ZS]) λF7 st=> ?_;exact fin (aa l2 l3) h0 st
  ·refine st.new λb8 F6 st=> ?_;refine st.run (kT (bl g.ZG.length) _) λ_ G3 F5 hr3 l3 st=> ?_;obtain ⟨n0,rfl,h0⟩:=hr3;refine ⟨_,rfl,iD (st.le _ _ (l3 _ _ q21)),ld (st.le _ _ (l3 _ _ (l2 _ _ q4))) rfl,st.ld2 rfl,?_⟩;refine st.put0 (w':=(bH (bl g.ZG.length) ((x.left % g.ZH.length:Nat):Int) []).arr Z3 n0 Z3) rfl rfl (by simp [am,ZS]) λF7 st=> ?_;exact fin (aa l2 l3) h0 st
 ·refine st.new λb8 F6 st=> ?_;refine st.newG λb21 G2 F4 l2 q21 _ st=> ?_;refine ⟨_,iD (st.le _ _ q21),sz2,?_⟩;refine st.run (kT (bl g.ZG.length) _) λ_ G3 F5 hr3 l3 st=> ?_;obtain ⟨n0,rfl,h0⟩:=hr3;refine ⟨_,rfl,iD (st.le _ _ (l3 _ _ q21)),ld (st.le _ _ (l3 _ _ (l2 _ _ q4))) rfl,st.ld2 rfl,?_⟩;refine st.put0 (w':=(bH (bl g.ZG.length) ((x.left % g.ZH.length:Nat):Int) []).arr Z3 n0 Z3) rfl rfl (by simp [am,ZS]) λF7 st=> ?_;exact fin (aa l2 l3) h0 st
theorem jw {F:PH} {v:Γ} {d:Dia} {n:Nat} (hd:DV F v d) (hf:Fit (d.1.length+4)) (hl:d.1.length<=1000000):ν 166 #[ZU v,vi n] F λr F'=>r=ZV (rB d n)/\F.le F':=by
 obtain ⟨s,rfl,hr⟩:=hd.out;refine SK ?_;unfold M0;refine (St.start F).newG λb2 G1 F1 l1 q1 _ h=> ?_;refine ⟨_,rfl,ac (h.le _ _ q1),?_⟩;refine h.runv (EJ (DV.mk (hr.le l1)) hf) λG2 F2 l2 h=> ?_;have l12:=aa l1 l2;have er:=hr.len;refine ⟨_,rfl,λhc=>⟨?_,aa l12 h.le⟩,λhc=> ?_⟩
 ·have:rB d n=ZQ:=vZ.2 λhg=>hc hg.1;rw [this]
 have hc:chk d=0:=Classical.not_not.1 hc;refine bi (wC · (n:Int) b2 _) d.1.length (λk F'=>G2.le F'/\∀b∈d.1.take k,b.v<n) ⟨h.le,by simp⟩ ?_;rintro k F3 N hk ⟨l3,hall⟩ next;unfold wC;have p1:=l3 _ _ (l2 _ _ q1);have l13:=aa l12 l3;refine ⟨_,ld p1 rfl,λhlt=>⟨_,ld p1 rfl,ixc (hr.le l13) (by decide) (by omega) hlt λa cc x hx hrow hcx=> ?_⟩,λhge=> ?_⟩
 ·rw [N5] at hx;rw [show cc=bh x from hcx] at hrow;refine ⟨x.v,aS hrow rfl,λhb=>⟨?_,l13⟩,λhb=> ?_⟩
  ·have:rB d n=ZQ:=vZ.2 λhg=>by have:=hg.2 x (XQ hx);omega
   rw [this]
  ·rw [aC (n:=d.1.length) (by omega) (by omega)];refine next _ (by omega) ⟨l3,λb hb'=> ?_⟩;rw [aQ hx] at hb';rcases XR.1 hb' with h|h
   ·exact hall b h
   ·rw [XO.1 h];omega
 ·have e:k=d.1.length:=by omega
  subst e;rw [XZ] at hall;unfold CE;exact ⟨by rw [bG.2 ⟨hc,hall⟩],l13⟩
def gO (x:Fi):Prop:=((x.k=1\/x.k=2)\/(x.par=0/\x.pos=0/\x.ch=0))/\((x.k=1\/x.k=2)->x.ZI=[])/\((x.k=3\/x.k=4)\/x.left=0)/\(x.k=5\/x.tok=0)
open Classical in
theorem Ex {F:PH} {w:Γ} {x:Fi} (hx:Mem.rep F x w):ν 176 #[ZU w] F λr F'=>r=ZV (decide (gO x))/\F.le F':=by
 obtain ⟨tt,nn,rfl,ht,_⟩:=hx;have et:=ht.len;refine SQ ?_;unfold M6;refine fresh λb1 F1 l1 q _=> ?_;have R:∀{b:Bool},(b=ZT↔gO x)->(ZV b=ZV (decide (gO x))/\F.le F1):=λ{b} h=>⟨by congr 1;rw [XV,h,δ],l1⟩;have no:¬gO x->(ZV ZQ=ZV (decide (gO x))/\F.le F1):=λh=>R ⟨λh=>(by cases h),λhp=>absurd hp h⟩;have tl:(x.ZI=[])↔¬(0:Int)<(tt.len:Int):=by
  rw [et];constructor
  ·intro h;rw [h];simp
  ·intro h;exact X9 (by omega)
 have j3:∀beside:Bool,(beside=ZT↔(x.k=3\/x.k=4))->((x.k=1\/x.k=2)\/(x.par=0/\x.pos=0/\x.ch=0))->((x.k=1\/x.k=2)->x.ZI=[])->
   pV b1 beside (λr F'=>r=ZV (decide (gO x))/\F.le F') F1:=λbeside hb h1 h2=>by
  unfold pV;refine ⟨λhb1=>⟨_,ld q rfl,λh5=>R ⟨λ_=>⟨h1,h2,.inl (hb.1 hb1),.inl h5⟩,λ_=>rfl⟩,λh5=>⟨_,ld q rfl,R ?_⟩⟩,λhb1=>⟨_,ld q rfl,λh0=>⟨_,ld q rfl,λh5=>R ⟨λ_=>⟨h1,h2,.inr h0,.inl h5⟩,λ_=>rfl⟩,λh5=>⟨_,ld q rfl,R ?_⟩⟩,λh0=>no λhp=> ?_⟩⟩
  ·rw [δ];exact ⟨λh=>⟨h1,h2,.inl (hb.1 hb1),.inr h⟩,λhp=>hp.2.2.2.resolve_left h5⟩
  ·rw [δ];exact ⟨λh=>⟨h1,h2,.inr h0,.inr h⟩,λhp=>hp.2.2.2.resolve_left h5⟩
  ·rcases hp.2.2.1 with h|h
   ·rw [hb.2 h] at hb1;cases hb1
   ·exact h0 h
 have j2:((x.k=1\/x.k=2)\/(x.par=0/\x.pos=0/\x.ch=0))->((x.k=1\/x.k=2)->x.ZI=[])->jX b1 (λr F'=>r=ZV (decide (gO x))/\F.le F') F1:=λh1 h2=>by unfold jX;refine ⟨_,ld q rfl,λh3=>j3 ZT ⟨λ_=> .inl h3,λ_=>rfl⟩ h1 h2,λh3=>⟨_,ld q rfl,j3 _ ?_ h1 h2⟩⟩;rw [δ];exact ⟨λh=> .inr h,λh=>h.resolve_left h3⟩
 have j1:∀pr:Bool,(pr=ZT↔(x.k=1\/x.k=2))->pW b1 pr (λr F'=>r=ZV (decide (gO x))/\F.le F') F1:=λpr hpr=>by
  unfold pW;cases pr with
  |true=>have hk:=hpr.1 rfl;exact ⟨λh=>(by cases h),λ_=>⟨λ_=>⟨_,ld q rfl,λh=>no λhp=>tl.1 (hp.2.1 hk) h,λh=>j2 (.inl hk) λ_=>tl.2 h⟩,λh=>(by cases h)⟩⟩
  |false=>
   have hk:¬(x.k=1\/x.k=2):=λh=>by have:=hpr.2 h;cases this
   refine ⟨λ_=>⟨_,ld q rfl,λh=>no λhp=>h (hp.1.resolve_left hk).1,λh1=>⟨_,ld q rfl,λh=>no λhp=>h (hp.1.resolve_left hk).2.1,λh2=>⟨_,ld q rfl,λh=>no λhp=>h (hp.1.resolve_left hk).2.2,λh3=>⟨λh=>(by cases h),λ_=>j2 (.inr ⟨Classical.not_not.1 h1,Classical.not_not.1 h2,Classical.not_not.1 h3⟩) λh=>absurd h hk⟩⟩⟩⟩,λh=>(by cases h)⟩
 refine ⟨_,ld q rfl,λh=>j1 ZT ⟨λ_=> .inl h,λ_=>rfl⟩,λh=>⟨_,ld q rfl,j1 _ ?_⟩⟩;rw [δ];exact ⟨λh=> .inr h,λh'=>h'.resolve_left h⟩
def kv (lit:Bool) (t:Tk):Bool:=if lit then !decide (t.lit=emp) else decide (t.cls=0)
open Classical in
theorem uC {F:PH} {v:Γ} {g:Gr} (hg:GV F v g) {sl:Sl} {l:Φ} (hl:RL F sl l) (hll:l.length<=1000000000) (lit:Bool):ν 177 #[ZU v,sl.v,ZV lit] F λr F'=>r=ZV (decide (gi g (kv lit) l))/\F.le F':=by
 obtain ⟨c,n,t,s,p,lv,f,rfl,hs⟩:=hg;have et:=hs.t.len;have el:=hl.len;refine SR ?_;unfold M7;refine fresh λb1 F1 l1 q1 _=> ?_;have hs:=hs.le l1;have hl:=hl.le l1;have no:∀{F':PH},F1.le F'->¬gi g (kv lit) l->(ZV ZQ=ZV (decide (gi g (kv lit) l))/\F.le F'):=λ{F'} l h=>⟨by rw [ι h],aa l1 l⟩;refine bi (wF · sl lit b1 _) l.length (λj F'=>F1.le F'/\(∀n∈l.take j,0<=n/\∃t,g.ZI[n.toNat]? =ZO t/\kv lit t=ZT)/\∀(i:Nat) (x y:Int),i+1<j->l[i]? =ZO x->l[i+1]? =ZO y->x<y)
  ⟨al _,by simp,λi x y h=>by omega⟩ ?_
 rintro j F2 N hj ⟨l2,i1,i2⟩ next;unfold wF;refine ⟨λhlt=> ?_,λhge=> ?_⟩
 ·have hlt:j<l.length:=by omega
  have hx:=N6 hlt;generalize l[j]=x at hx;obtain ⟨a,cc,ha,hr,hc⟩:=(hl.le l2).get (by decide) hx;rw [show cc= #[vi x] from hc] at hr;have hcell:F2.cell (ZW a (ZY (j:Int)*1))=ZO (vi x):=by rw [N5];exact aS hr rfl
  have hxm:x∈l:=XQ hx;have p1:=l2 _ _ q1;have noR:¬(0<=x/\x<g.ZI.length)->(ZV ZQ=ZV (decide (gi g (kv lit) l))/\F.le F2):=λh=>no l2 λhp=>by obtain ⟨h0,t',ht,_⟩:=hp.2.1 x hxm;have:=(XN.1 ht).1;exact h ⟨h0,by omega⟩
  refine ⟨a,ha,by omega,by omega,x,hcell,λh=>noR (by omega),λx0=>⟨a,ha,by omega,by omega,x,hcell,_,ld p1 rfl,λh=>noR (by omega),λx1=> ?_⟩⟩;have body:(∀y,0<j->l[j - 1]? =ZO y->y<x)->pY N sl lit b1 (j:Int) (λr F'=>r=ZV (decide (gi g (kv lit) l))/\F.le F') F2:=λhprev=>by
   unfold pY;refine ⟨_,ld p1 rfl,a,ha,by omega,by omega,x,hcell,ixc (hs.t.le l2) (by decide) (by omega) (by omega) λa2 c2 y hy hr2 hc2=>⟨c2,Mem.len hc2,hr2,?_⟩⟩;refine var1 (Mem.st hc2) (λb F3 l3 q3=> ?_) rfl (Mem.len hc2);have l23:=aa l2 l3;obtain ⟨pp,nn,rfl,_,_⟩:=hc2;have bad:kv lit y=ZQ->(ZV ZQ=ZV (decide (gi g (kv lit) l))/\F.le F3):=λhk=>no l23 λhp=>by obtain ⟨h0,t',ht,hk'⟩:=hp.2.1 x hxm;rw [hy] at ht;cases ht;rw [hk'] at hk;cases hk
   have good:kv lit y=ZT->pX N sl lit b1 (j:Int) (λr F'=>r=ZV (decide (gi g (kv lit) l))/\F.le F') F3:=λhk=>by
    unfold pX;rw [aC hlt];refine next _ hlt ⟨l23,λm hm=> ?_,λi u w hi hu hw=> ?_⟩
    ·rw [aQ hx] at hm;rcases XR.1 hm with hm|hm
     ·exact i1 m hm
     ·rw [XO.1 hm];exact ⟨by omega,y,hy,hk⟩
    ·by_cases e:i+1<j
     ·exact i2 i u w e hu hw
     ·have e:j=i+1:=by omega
      subst e;rw [hx] at hw;cases hw;exact hprev u (by omega) hu
   refine ⟨λhlit=>⟨y.lit,ld q3 rfl,?_⟩,λhlit=>⟨y.cls,ld q3 rfl,λh=>bad (by unfold kv;rw [hlit];simpa using h),λh=>good (by unfold kv;rw [hlit];simpa using h)⟩⟩;dsimp only;rw [hY];exact ⟨λh=>bad (by unfold kv;rw [hlit];simpa using h),λh=>good (by unfold kv;rw [hlit];simpa using h)⟩
  refine ⟨λhj0=> ?_,λhj0=>body λy h=>by omega⟩;have hj0:0<j:=by omega
  have ew:i64.wrap ((j:Int) - 1)=((j - 1:Nat):Int):=by rw [aR (by omega)];omega
  rw [ew];have hy:=N6 (show j - 1<l.length by omega);generalize l[j - 1]=y at hy;obtain ⟨a',cc',ha',hr',hc'⟩:=(hl.le l2).get (by decide) hy;rw [show cc'= #[vi y] from hc'] at hr';refine ⟨a,ha,by omega,by omega,x,hcell,a',ha',by omega,by omega,y,by rw [N5];exact aS hr' rfl,λh=>no l2 λhp=> ?_,λh=>body λz _ hz=> ?_⟩
  ·have:=hp.2.2 (j - 1) y x hy (by rw [show j - 1+1=j by omega];exact hx);omega
  ·rw [hy] at hz;cases hz;omega
 ·have e:j=l.length:=by omega
  subst e;rw [XZ] at i1;unfold CH;refine ⟨?_,aa l1 l2⟩;congr 1;rw [XV,δ,δ];constructor
  ·intro h;refine ⟨λe=>by rw [e] at el;simp at el;omega,i1,λi x y hx hy=>i2 i x y ?_ hx hy⟩;exact (XN.1 hy).1
  ·intro h;have:l.length≠0:=λe=>h.1 (X9 e);omega
open Classical in
theorem ri {F:PH} {v w:Γ} {g:Gr} {x:Fi} (hg:GV F v g) (hx:Mem.rep F x w) (hf:x.cond.1.length<=1000000) (hll:x.ZI.length<=1000000000):ν 138 #[ZU v,ZU w] F λr F'=>r=ZV (decide (ce g x))/\F.le F':=by
 have hg0:=hg;have hx0:=hx;obtain ⟨c,n,t,s,p,lv,f,rfl,hs⟩:=hg;obtain ⟨tt,nn,rfl,ht,hd⟩:=hx;have ec:=hs.c.len;have et:=hs.t.len;have es:=hs.s.len;have ep:=hs.p.len;refine SF ?_;unfold MV;refine (St.start F).newG λb2 G1 F1 l1 q2 _ h=> ?_;refine h.newG λb3 G2 F2 l2 q3 _ h=> ?_;have q2:=l2 _ _ q2;have l1:=aa l1 l2;have R:∀{F':PH} {b:Bool},G2.le F'->(b=ZT↔ce g x)->(ZV b=ZV (decide (ce g x))/\F.le F'):=λ{F' b} l h=>⟨by congr 1;rw [XV,h,δ],aa l1 l⟩;have no:∀{F':PH},G2.le F'->¬ce g x->(ZV ZQ=ZV (decide (ce g x))/\F.le F'):=λl h=>R l ⟨λh=>(by cases h),λhp=>absurd hp h⟩;have kr:ce g x->1<=x.k/\x.k<=5:=λh=>by rcases h.2 with h|h|h<;>have:=h.1<;>omega
 have pl:ce g x->gO x:=λh=>by
  rcases h.2 with ⟨k,_,a,b,c⟩|⟨k,_,a,b,c,d⟩|⟨k,_,a,b,c,d⟩
  ·exact ⟨.inl k,λ_=>c,.inr a,.inr b⟩
  ·exact ⟨.inr ⟨a,b,c⟩,λh=>by omega,.inl k,.inr d⟩
  ·exact ⟨.inr ⟨a,b,c⟩,λh=>by omega,.inr d,.inl k⟩
 refine ⟨_,ld (h.le _ _ q3) rfl,λhk=>no h.le λhp=>by have:=kr hp;omega,λhk1=>⟨_,ld (h.le _ _ q3) rfl,λhk=>no h.le λhp=>by have:=kr hp;omega,λhk5=>⟨#[nn.v,vi x.cond.2],rfl,iM (h.le _ _ q3) rfl,_,ld (h.le _ _ q2) rfl,?_⟩⟩⟩;dsimp only;rw [ec];refine h.runv (jw (d:=x.cond) (DV.mk (hd.le l1)) (by show _<=_;omega) hf) λG3 F3 l3 h=> ?_;replace no:∀{F':PH},G3.le F'->¬ce g x->(ZV ZQ=ZV (decide (ce g x))/\F.le F'):=λl h=>no (aa l3 l) h;have q3:=l3 _ _ q3;have q2:=l3 _ _ q2;have l13:=aa l1 l3;refine ⟨_,rfl,λhc=>no h.le λhp=>(by rw [bG.2 hp.1] at hc;cases hc),λhc=>⟨_,rfl,ac (h.le _ _ q3),?_⟩⟩;have hfit:iI x.cond g.ZJ.length:=bG.1 (by simpa using hc);refine h.runv (Ex (Mem.le l13 hx0)) λG4 F4 l4 h=> ?_;replace no:∀{F':PH},G4.le F'->¬ce g x->(ZV ZQ=ZV (decide (ce g x))/\F.le F'):=λl h=>no (aa l4 l) h;replace R:∀{F':PH} {b:Bool},G4.le F'->(b=ZT↔ce g x)->(ZV b=ZV (decide (ce g x))/\F.le F'):=λl h=>R (aa l3 (aa l4 l)) h;have q3:=l4 _ _ q3;have q2:=l4 _ _ q2;have l13:=aa l13 l4;refine ⟨_,rfl,λhc=>no h.le λhp=>(by rw [decide_eq_true (pl hp)] at hc;cases hc),λhc=> ?_⟩;have hpl:gO x:=by simpa using hc
 obtain ⟨P1,P2,P3,P4⟩:=hpl;have j2:¬(x.k=1\/x.k=2)->∀q:Bool,(q=ZT↔(x.k=3\/x.k=4))->pO b2 b3 q (λr F'=>r=ZV (decide (ce g x))/\F.le F') F4:=λhk12 q hq=>by
  have hz:=P1.resolve_left hk12;unfold pO;refine ⟨λh1=> ?_,λh1=> ?_⟩
  ·have hk:=hq.1 h1;have h5:x.tok=0:=P4.resolve_left (by omega);have key:ce g x↔(0<=x.left/\x.left<g.ZH.length/\gi g (λt=>decide (t.cls=0)) x.ZI):=by
    constructor
    ·intro hp;rcases hp.2 with h|h|h
     ·exact absurd h.1 hk12
     ·exact h.2.1
     ·have:=h.1;omega
    ·intro h;exact ⟨hfit,.inr (.inl ⟨hk,h,hz.1,hz.2.1,hz.2.2,h5⟩)⟩
   refine ⟨_,ld (h.le _ _ q3) rfl,λh0=>⟨_,ld (h.le _ _ q3) rfl,_,ld (h.le _ _ q2) rfl,λh2=>⟨_,rfl,ac (h.le _ _ q2),_,ld (h.le _ _ q3) rfl,?_⟩,λh2=>no h.le λhp=> ?_⟩,λh0=>no h.le λhp=>h0 (key.1 hp).1⟩
   ·refine h.runv (uC (GV.le hg0 l13) (ht.le l13) hll ZQ) λG5 F5 l5 h=>⟨_,rfl,R (aa l5 h.le) ?_⟩;rw [δ,key];exact ⟨λh=>⟨h0,by omega,h⟩,λh=>h.2.2⟩
   ·have:=(key.1 hp).2.1;omega
  ·have hk:¬(x.k=3\/x.k=4):=λh=>by rw [hq.2 h] at h1;cases h1
   have hk5:x.k=5:=by omega
   have h5:x.left=0:=P3.resolve_left hk;have key:ce g x↔(gi g (λt=> !decide (t.lit=emp)) x.ZI/\0<=x.tok/\∃t,g.ZI[x.tok.toNat]? =ZO t/\t.cls=0/\t.lit=emp):=by
    constructor
    ·intro hp;rcases hp.2 with h|h|h
     ·exact absurd h.1 hk12
     ·exact absurd h.1 hk
     ·exact h.2.1
    ·intro h;exact ⟨hfit,.inr (.inr ⟨hk5,h,hz.1,hz.2.1,hz.2.2,h5⟩)⟩
   have noT:∀{F':PH},G4.le F'->¬(0<=x.tok/\x.tok<g.ZI.length)->(ZV ZQ=ZV (decide (ce g x))/\F.le F'):=λl h=>no l λhp=>by obtain ⟨_,h0,y,hy,_⟩:=key.1 hp;have:=(XN.1 hy).1;exact h ⟨h0,by omega⟩
   refine ⟨_,ld (h.le _ _ q3) rfl,λh0=>noT h.le (by omega),λh0=>⟨_,ld (h.le _ _ q3) rfl,_,ld (h.le _ _ q2) rfl,λh2=>noT h.le (by omega),λh2=>⟨_,rfl,ac (h.le _ _ q2),_,ld (h.le _ _ q3) rfl,?_⟩⟩⟩;refine h.runv (uC (GV.le hg0 l13) (ht.le l13) hll ZT) λG5 F5 l5 h=>⟨_,rfl,λhc=>no (aa l5 h.le) λhp=> ?_,λhc=> ?_⟩
   ·rw [ζ (show gi g (kv ZT) x.ZI from (key.1 hp).1)] at hc;cases hc
   have hasc:gi g (kv ZT) x.ZI:=by simpa using hc
   have l15:=aa l13 l5;refine ⟨_,ld (h.le _ _ (l5 _ _ q2)) rfl,_,ld (h.le _ _ (l5 _ _ q3)) rfl,h.ix (hs.t.le l15) (by decide) (by omega) (by omega) λa cc y hy hr hcc=>⟨cc,Mem.len hcc,hr,?_⟩⟩;have hstc:=Mem.st hcc;have hlc:cc.size=7:=Mem.len hcc;obtain ⟨pp,nn',rfl,_,_⟩:=hcc;refine h.var hstc (λb6 G6 F6 l6 q6 h=> ?_) rfl rfl;refine ⟨_,ld (h.le _ _ q6) rfl,λhcl=>⟨_,ld (h.le _ _ q6) rfl,R (aa l5 (aa l6 h.le)) ?_⟩,λhcl=>no (aa l5 (aa l6 h.le)) λhp=> ?_⟩
   ·rw [hY,δ,key];constructor
    ·intro hl;exact ⟨hasc,by omega,y,hy,hcl,hl⟩
    ·rintro ⟨_,_,y',hy',_,hl⟩;rw [hy] at hy';cases hy';exact hl
   ·obtain ⟨_,_,y',hy',hcl',_⟩:=key.1 hp;rw [hy] at hy';cases hy';exact hcl hcl'
 have j1:∀q:Bool,(q=ZT↔(x.k=1\/x.k=2))->pP b2 b3 x.k q (λr F'=>r=ZV (decide (ce g x))/\F.le F') F4:=λq hq=>by
  unfold pP;refine ⟨λh1=> ?_,λh1=> ?_⟩
  ·have hk:=hq.1 h1;have key:ce g x↔oK g x:=by
    constructor
    ·intro hp;rcases hp.2 with h|h|h
     ·exact h.2.1
     ·have:=h.1;omega
     ·have:=h.1;omega
    ·intro h;exact ⟨hfit,.inl ⟨hk,h,P3.resolve_left (by omega),P4.resolve_left (by omega),P2 hk⟩⟩
   have noR:¬(0<=x.par/\x.par<g.ZG.length/\0<=x.ch/\x.ch<g.ZG.length)->(ZV ZQ=ZV (decide (ce g x))/\F.le F4):=λhn=>no h.le λhp=>by obtain ⟨h0,h1,_,p',q',hp',hq',_⟩:=key.1 hp;have:=(XN.1 hp').1;have:=(XN.1 hq').1;exact hn (by omega)
   have p2:=h.le _ _ q2;have p3:=h.le _ _ q3;refine ⟨_,ld p3 rfl,λh0=>noR (by omega),λh0=>⟨_,ld p3 rfl,_,ld p2 rfl,λh0=>noR (by omega),λh2=>⟨_,ld p3 rfl,λh0=>noR (by omega),λh3=>⟨_,ld p3 rfl,_,ld p2 rfl,λh0=>noR (by omega),λh4=>⟨_,ld p2 rfl,_,ld p3 rfl,?_⟩⟩⟩⟩⟩;refine h.ix (hs.p.le l13) (by decide) (by omega) (by omega) λa cc y hy hr hcc=> ?_;obtain ⟨rr,n2,l2',rfl,hrr,_,_⟩:=hcc;have er:=hrr.len;have noA:¬(0<=x.pos/\x.pos<y.right.length)->(ZV ZQ=ZV (decide (ce g x))/\F.le F4):=λhn=>no h.le λhp=>by obtain ⟨_,_,h0,p',q',hp',_,hs'⟩:=key.1 hp;rw [hy] at hp';cases hp';have:=(XN.1 hs').1;exact hn (by omega)
   refine ⟨rr,aZ hr rfl,_,ld p3 rfl,λh5=>⟨_,ld p3 rfl,λh6=>⟨_,ld p3 rfl,?_⟩,λh6=>noA (by omega)⟩,λh5=>noA (by omega)⟩;have hlt:x.pos.toNat<y.right.length:=by omega
   have hz:=N6 hlt;generalize y.right[x.pos.toNat]=z at hz;obtain ⟨a2,c2,ha2,hr2,hc2⟩:=(hrr.le h.le).get (by decide) hz;rw [show c2=z.arr from hc2] at hr2;refine ⟨a2,ha2,by omega,by omega,z.t,aS hr2 rfl,λhzt=>⟨_,ld p3 rfl,a2,ha2,by omega,by omega,z.i,aZ hr2 rfl,_,ld p2 rfl,_,ld p3 rfl,?_⟩,λhzt=>no h.le λhp=> ?_⟩
   ·refine h.ix (hs.p.le l13) (by decide) (by omega) (by omega) λa cc u hu hr hcc=> ?_;obtain ⟨r3,n3,l3',rfl,_,_,_⟩:=hcc;refine ⟨u.left,aZ hr rfl,R h.le ?_⟩;rw [δ,key];have hzt:z.t=ZQ:=by simpa using hzt
    constructor
    ·intro he;refine ⟨by omega,by omega,by omega,y,u,hy,hu,?_⟩;rw [hz,<- he,<- hzt]
    ·rintro ⟨_,_,_,p',q',hp',hq',hs'⟩;rw [hy] at hp';cases hp';rw [hu] at hq';cases hq';rw [hz] at hs';cases hs';rfl
   ·obtain ⟨_,_,_,p',q',hp',hq',hs'⟩:=key.1 hp;rw [hy] at hp';cases hp';rw [hz] at hs';cases hs';cases hzt
  ·have hk12:¬(x.k=1\/x.k=2):=λh=>by rw [hq.2 h] at h1;cases h1
   refine ⟨λh3=>j2 hk12 _ ?_,λh3=>j2 hk12 _ ?_⟩
   ·rw [δ];exact ⟨λh=> .inl h,λ_=>h3⟩
   ·rw [δ];exact ⟨λh=> .inr h,λh=>h.resolve_left h3⟩
 refine ⟨_,ld (h.le _ _ q3) rfl,λh1=>j1 _ ?_,λh1=>j1 _ ?_⟩
 ·rw [δ];exact ⟨λh=> .inl h,λ_=>h1⟩
 ·rw [δ];exact ⟨λh=> .inr h,λh=>h.resolve_left h1⟩
theorem oI {F:PH} {v:Γ} {g:Gr} (hg:GV F v g) (i:Int) (h1:g.lvs.length<=1000000) (h2:∀x∈g.lvs,x.ps.length<=1000000):ν 137 #[ZU v,vi i] F λr F'=>r=ZV (decide (i∈g.lvs.flatMap Lv.ps))/\F.le F':=by
 obtain ⟨c,n,t,s,p,lv,f,rfl,hs⟩:=hg;have el:=hs.l.len;refine SE ?_;unfold MU;refine fresh λb2 F1 l1 q1 _=> ?_;have hs:=hs.le l1;refine bi (wz · i b2 _) g.lvs.length (λk F'=>F1.le F'/\i ∉ (g.lvs.take k).flatMap Lv.ps) ⟨al _,by simp⟩ ?_;rintro k F2 N hk ⟨l2,hni⟩ next;unfold wz;have p1:=l2 _ _ q1;refine ⟨_,ld p1 rfl,λhlt=> ?_,λhge=> ?_⟩
 ·have hlt:k<g.lvs.length:=by omega
  have hx:=N6 hlt;have hxm:=YM hlt;generalize g.lvs[k]=x at hx hxm;obtain ⟨a,cc,ha,hr,hc⟩:=(hs.l.le l2).get (by decide) hx;obtain ⟨pp,nn,rfl,hps,_⟩:=hc;have eps:=hps.len;have hpl:=h2 x hxm;have hcell:∀{F':PH},F2.le F'->F'.cell (ZW a (ZY (k:Int)*4))=ZO pp.v:=λl=>by rw [N5];exact aK l (aS hr rfl)
  refine bi (wy N · i b2 (k:Int) _) x.ps.length (λj F'=>F2.le F'/\i ∉ x.ps.take j) ⟨al _,by simp⟩ ?_;rintro j F3 N2 hj ⟨l3,hnj⟩ next2;unfold wy;have p3:=l3 _ _ p1;refine ⟨_,ld p3 rfl,a,ha,by omega,by omega,pp,hcell l3,λhlt2=>⟨_,ld p3 rfl,a,ha,by omega,by omega,pp,hcell l3,ixc (hps.le l3) (by decide) (by omega) (by omega) λa2 c2 y hy hr2 hc2=> ?_⟩,λhge2=> ?_⟩
  ·rw [N5] at hy;rw [show c2= #[vi y] from hc2] at hr2;refine ⟨y,aS hr2 rfl,λhe=>⟨?_,aa l1 (aa l2 l3)⟩,λhe=> ?_⟩
   ·rw [ζ (Zm.2 ⟨x,hxm,by rw [<- he];exact XQ hy⟩)]
   ·rw [aC (n:=x.ps.length) (by omega) (by omega)];refine next2 _ (by omega) ⟨l3,λhm=> ?_⟩;rw [aQ hy] at hm;rcases XR.1 hm with h|h
    ·exact hnj h
    ·exact he (XO.1 h).symm
  ·have e:j=x.ps.length:=by omega
   subst e;rw [XZ] at hnj;unfold CB;rw [aC hlt];refine next _ hlt ⟨aa l2 l3,λhm=> ?_⟩;rw [aQ hx,YS] at hm;rcases XR.1 hm with h|h
   ·exact hni h
   ·simp at h;exact hnj h
 ·have e:k=g.lvs.length:=by omega
  subst e;rw [XZ] at hni;unfold CA;exact ⟨by rw [ι hni],aa l1 l2⟩
structure Ru where
 kind:Nat
 a:Nat
 b:Nat
 c:Nat
 cond:Nat
instance:Mem Ru where
 n:=5
 rep _ x c:=c= #[vB x.kind,vB x.a,vB x.b,vB x.c,vB x.cond]/\x.kind<256/\x.a<256/\x.b<256/\x.c<256/\x.cond<256
 len h:=by obtain ⟨rfl,_⟩:=h;rfl
 le _ h:=h
 st h:=by obtain ⟨rfl,_⟩:=h;simp [am]
abbrev ruD (g:Gr) (x:Ru):Dia:=dia (ji x.cond g.ZJ.length)
open Classical in
def kA (g:Gr) (x:Fi):Gr:=if ce g x then {g with fils:=g.fils++[x]} else g
def nH (g:Gr) (x:Ru):Gr:=
 if ((x.a % g.ZG.length:Nat):Int)∈g.lvs.flatMap Lv.ps then g
 else {g with lvs:=g.lvs++[⟨((x.a % g.ZG.length:Nat):Int)::(if x.b % g.ZG.length≠x.a % g.ZG.length/\((x.b % g.ZG.length:Nat):Int) ∉ g.lvs.flatMap Lv.ps then [((x.b % g.ZG.length:Nat):Int)] else []),((x.c % 4:Nat):Int),ruD g x⟩]}
def tokG (g:Gr) (x:Ru):Gr:={g with ZI:=g.ZI.modify (x.a % 9) λt=>{t with cond:=ruD g x}}
def ruleG (g:Gr) (x:Ru):Gr:=
 if x.kind % 8<2 then nH g x
 else if x.kind % 8<4 then kA g ⟨((x.kind % 8 - 1:Nat):Int),((x.a % g.ZG.length:Nat):Int),((x.c % 16:Nat):Int),((x.b % g.ZG.length:Nat):Int),0,0,[],ruD g x⟩
 else if x.kind % 8<6 then kA g ⟨((x.kind % 8 - 1:Nat):Int),0,0,0,((x.a % g.ZH.length:Nat):Int),0,[((x.b % 9:Nat):Int)],ruD g x⟩
 else if x.kind % 8=6 then kA g ⟨5,0,0,0,0,0,[5],ruD g x⟩
 else tokG g x
theorem df.sz {α:Type} [Mem α] {F:PH} {l:List α} {vs:List Γ} (h:df F l vs):∀d∈vs,d.size=Mem.n α:=by
 induction h with
 |nil=>intro d hd;cases hd
 |cons h _ ih=>
  intro d hd;rcases XP.1 hd with rfl|hd
  ·exact Mem.len h
  ·exact ih d hd
structure RK (F G:PH) (b3 b5:Nat) (g:Gr) (x:Ru) (c n t s p l f m:Sl):Prop where
 lF:F.le G
 q3:G b3=ZO (ZP #[vB x.kind,vB x.a,vB x.b,vB x.c,vB x.cond] 131)
 q5:G b5=ZO (ZP #[m.v,vi (ruD g x).2] 31)
 gs:GS G g c n t s p l f
 m:RL G m (ruD g x).1
theorem RK.le {F G G':PH} {b3 b5:Nat} {g:Gr} {x:Ru} {c n t s p l f m:Sl} (h:RK F G b3 b5 g x c n t s p l f m) (hl:G.le G'):RK F G' b3 b5 g x c n t s p l f m:=
 ⟨aa h.lF hl,hl _ _ h.q3,hl _ _ h.q5,h.gs.le hl,h.m.le hl⟩
theorem RK.gv {F G:PH} {b3 b5:Nat} {g:Gr} {x:Ru} {c n t s p l f m:Sl} (h:RK F G b3 b5 g x c n t s p l f m):GV G (g.arr c n t s p l f) g:=⟨c,n,t,s,p,l,f,rfl,h.gs⟩
section
variable {F G F1:PH} {b2 b3 b4 b5 b7 b8:Nat} {g g':Gr} {x:Ru} {c n t s p l f m:Sl}
theorem jx {w:Γ} (hF:F.le G) (hg:GV G w g') (st:St G F1 [pt b4 (ZP zG 37),pt b2 (ZP w 37)]):
  ∃v:Γ,v.size=9/\F1.row (ZX b2 0 ZR) v/\aw F1 (ZX b4 0 ZR) 9 v λF2=>∃v:Γ,v.size=9/\F2.row (ZX b4 0 ZR) v/\LR F g' (ZU v) F2:=by
 refine ⟨_,hg.size,st.whole1,?_⟩;refine st.put0 (w':=w) hg.size rfl hg.st λF3 h=> ?_;exact ⟨_,hg.size,h.whole0,⟨_,rfl,hg.le h.le⟩,aa hF h.le⟩
theorem vO {y:Fi} {ty my:Sl} (K:RK F G b3 b5 g x c n t s p l f m) (hf:g.fils.length<=1000000) (h1:y.cond.1.length<=1000000) (h2:y.ZI.length<=1000) (ht:RL G ty y.ZI) (hm:RL G my y.cond.1)
  (st:St G F1 [pt b7 (ZP (y.arr ty my) 156),pt b4 (ZP zG 37),pt b2 (ZP (g.arr c n t s p l f) 37)]):
  rO b2 b4 b7 (LR F (kA g y)) F1:=by
 obtain ⟨_,_,T⟩:=Wy;unfold rO;refine ⟨_,rfl,st.whole2,_,rfl,st.whole0,?_⟩;refine st.runv (ri K.gv ⟨ty,my,rfl,ht,hm⟩ h1 (by omega)) λG2 F2 l2 st=> ?_;have K:=K.le l2;refine ⟨_,rfl,λhc=> ?_,λhc=> ?_⟩
 ·have e:kA g y={g with fils:=g.fils++[y]}:=by unfold kA;rw [Χ (show ce g y by simpa using hc)]
  rw [e];refine ⟨_,st.ld2 rfl,_,rfl,st.whole0,?_⟩;refine St.grow T st K.gs.f (y:=y) ⟨ty,my,rfl,ht.le l2,hm.le l2⟩ hf rfl (λG' F' st=>st.whole0) λs' G' F' l' hs' st=> ?_;have K:=K.le l';refine st.set2 (w':=Gr.arr {g with fils:=g.fils++[y]} c n t s p l s') (Z8 rfl) rfl λF6 st=> ?_;unfold nQ;exact jx K.lF ⟨c,n,t,s,p,l,s',rfl,K.gs.c,K.gs.n,K.gs.t,K.gs.s,K.gs.p,K.gs.l,hs'⟩ st.tail
 ·have e:kA g y=g:=by unfold kA;rw [Υ (show ¬ce g y by simpa using hc)]
  rw [e];unfold nQ;exact jx K.lF K.gv st.tail
theorem B1 {y:Lv} {sy my:Sl} (K:RK F G b3 b5 g x c n t s p l f m) (hl:g.lvs.length<=1000000) (hy:RL G sy y.ps) (hm:RL G my y.cond.1)
  (st:St G F1 [pt b8 (ZP (y.arr sy my) 69),pt b4 (ZP zG 37),pt b2 (ZP (g.arr c n t s p l f) 37)]):
  we b2 b4 b8 (LR F {g with lvs:=g.lvs++[y]}) F1:=by
 obtain ⟨_,_,T⟩:=Wx;unfold we;refine ⟨_,st.ld2 rfl,_,rfl,st.whole0,?_⟩;refine St.grow T st K.gs.l (y:=y) ⟨sy,my,rfl,hy,hm⟩ hl rfl (λG' F' st=>st.whole0) λs' G' F' l' hs' st=> ?_;have K:=K.le l';refine st.set2 (w':=Gr.arr {g with lvs:=g.lvs++[y]} c n t s p s' f) (Z8 rfl) rfl λF6 st=> ?_;unfold nR;exact jx K.lF ⟨c,n,t,s,p,s',f,rfl,K.gs.c,K.gs.n,K.gs.t,K.gs.s,K.gs.p,hs',K.gs.f⟩ st.tail
end
theorem Ey {α:Type} (l:List α) (i:Nat) (f:α->α) {x:α} (hx:l[i]? =ZO x):l.modify i f=l.set i (f x):=by
 apply Yx;intro j;rw [Zc,Ze];by_cases e:i=j
 ·subst e;obtain ⟨hlt,rfl⟩:=XN.1 hx;simp [hlt]
 ·simp [e]
structure RH (g:Gr) (x:Ru):Prop where
 ka:x.kind<256
 a:x.a<256
 b:x.b<256
 c:x.c<256
 pl:g.ZG.length<=1000000
 p0:g.ZG.length≠0
 nl:g.ZH.length<=1000000
 n0:g.ZH.length≠0
 tl:g.ZI.length<=1000000
 t9:9<=g.ZI.length
 ll:g.lvs.length<=1000000
 lp:∀y∈g.lvs,y.ps.length<=1000000
 fl:g.fils.length<=1000000
 dl:(ruD g x).1.length<=1000000
section
variable {F G F1:PH} {b2 b3 b4 b5 b7 b8:Nat} {g g':Gr} {x:Ru} {c n t s p l f m:Sl}
abbrev f0 (g:Gr) (x:Ru):Fi:=⟨0,0,0,0,0,0,[],ruD g x⟩
theorem wN {a b:Nat} (ha:a<256):Z5 (i64.wrap (a:Int)) (b:Int)=((a % b:Nat):Int):=by rw [aR (by omega),gg]
theorem B2 (K:RK F G b3 b5 g x c n t s p l f m) (H:RH g x) {q:Bool} (hk:4<=x.kind % 8) (hq:q=ZT↔(x.kind % 8=4\/x.kind % 8=5))
  (st:St G F1 [pt b7 (ZP ((f0 g x).arr Z3 m) 156),pt b4 (ZP zG 37),pt b2 (ZP (g.arr c n t s p l f) 37)]):
  wh b2 b3 b4 b5 b7 (x.kind:Int) q (LR F (ruleG g x)) F1:=by
 have es:=K.gs.s.len;have et:=K.gs.t.len;have e8:Z5 (x.kind:Int) 8=((x.kind % 8:Nat):Int):=gg x.kind 8;have ka:=H.ka;unfold wh;refine ⟨λh1=> ?_,λh1=> ?_⟩
 ·have hk45:=hq.1 h1;have e:ruleG g x=kA g ⟨((x.kind % 8 - 1:Nat):Int),0,0,0,((x.a % g.ZH.length:Nat):Int),0,[((x.b % 9:Nat):Int)],ruD g x⟩:=by unfold ruleG;rw [Υ (by omega),Υ (by omega),Χ (by omega)]
  rw [e];refine ⟨_,ld (st.le _ _ K.q3) rfl,?_⟩;dsimp only;rw [e8,show i64.wrap ((x.kind % 8:Nat):Int)=((x.kind % 8:Nat):Int) from aR (by omega),show i64.wrap ((3:Int)+((x.kind % 8:Nat):Int))=(3:Int)+((x.kind % 8:Nat):Int) from aR (by omega),show i64.wrap ((3:Int)+((x.kind % 8:Nat):Int) - 4)=((x.kind % 8 - 1:Nat):Int) by rw [aR (by omega)];omega];refine st.set0 (w':=Fi.arr ⟨((x.kind % 8 - 1:Nat):Int),0,0,0,0,0,[],ruD g x⟩ Z3 m) (Z8 rfl) rfl λF2 st=> ?_;refine ⟨_,ld (st.le _ _ K.q3) rfl,_,st.ld2 rfl,by have:=H.n0;omega,?_⟩;rw [es,wN H.a];refine st.set0 (w':=Fi.arr ⟨((x.kind % 8 - 1:Nat):Int),0,0,0,((x.a % g.ZH.length:Nat):Int),0,[],ruD g x⟩ Z3 m) (Z8 rfl) rfl λF3 st=> ?_;refine ⟨_,ld (st.le _ _ K.q3) rfl,?_⟩;dsimp only;rw [show Z5 (i64.wrap (x.b:Int)) (9:Int)=((x.b % 9:Nat):Int) from wN (b:=9) H.b];refine st.newG λb137 G2 F4 l2 q _ st=> ?_;refine st.set0 (w':=Fi.arr ⟨((x.kind % 8 - 1:Nat):Int),0,0,0,((x.a % g.ZH.length:Nat):Int),0,[((x.b % 9:Nat):Int)],ruD g x⟩ (Z4 (ZO (ZX b137 0 ZR)) 1 1) m) (Z8 rfl) rfl λF5 st=> ?_;exact vO (y:=⟨((x.kind % 8 - 1:Nat):Int),0,0,0,((x.a % g.ZH.length:Nat):Int),0,[((x.b % 9:Nat):Int)],ruD g x⟩) (K.le l2) H.fl H.dl (by simp) (eX q) (K.m.le l2) st
 ·have hn45:¬(x.kind % 8=4\/x.kind % 8=5):=λh=>by rw [hq.2 h] at h1;cases h1
  rw [e8];refine ⟨λh6=> ?_,λh6=> ?_⟩
  ·have e:ruleG g x=kA g ⟨5,0,0,0,0,0,[5],ruD g x⟩:=by unfold ruleG;rw [Υ (by omega),Υ (by omega),Υ (by omega),Χ (by omega)]
   rw [e];refine st.set0 (w':=Fi.arr ⟨5,0,0,0,0,0,[],ruD g x⟩ Z3 m) (Z8 rfl) rfl λF2 st=> ?_;refine st.newG λb142 G2 F4 l2 q _ st=> ?_;refine st.set0 (w':=Fi.arr ⟨5,0,0,0,0,0,[5],ruD g x⟩ (Z4 (ZO (ZX b142 0 ZR)) 1 1) m) (Z8 rfl) rfl λF5 st=> ?_;exact vO (y:=⟨5,0,0,0,0,0,[5],ruD g x⟩) (K.le l2) H.fl H.dl (by simp) (eX q) (K.m.le l2) st
  ·have e:ruleG g x=tokG g x:=by unfold ruleG;rw [Υ (by omega),Υ (by omega),Υ (by omega),Υ (by omega)]
   rw [e];obtain ⟨_,_,T⟩:=RZ;have ht9:=H.t9;have htl:=H.tl;have h9:x.a % 9<9:=YT _ (by decide);obtain ⟨vs,hr,hrd⟩:=K.gs.t;have hx:=N6 (show x.a % 9<g.ZI.length by omega);generalize g.ZI[x.a % 9]=y at hx;obtain ⟨w,hw1,hw2,_⟩:=hr.get hx;refine st.new λb29 F2 st=> ?_;have st:=st.imp (A':=own (Z4 (ZO (ZX b29 0 ZR)) 0 0) 146 7 []) 0 rfl λH _ hH=>eY hH;refine ⟨_,st.ld3 rfl,?_⟩;refine St.app0 T st (hrd.le st.le) hr.st (by show 0+t.len<=_;omega) λs1 F3 st hl1=> ?_;rw [Yu] at st;refine ⟨_,ld (st.le _ _ K.q3) rfl,_,rfl,ac (st.le _ _ K.q5),?_⟩;rw [show Z5 (i64.wrap (x.a:Int)) (9:Int)=((x.a % 9:Nat):Int) from wN (b:=9) H.a];refine st.elN 0 rfl hr.sz hw1 (by decide) rfl (by show 5+2<=7;decide) (by simp [am,ZS]) λF4 st=> ?_;obtain ⟨pp,nn,rfl,hp1,hp2⟩:=hw2;have hy':Mem.rep G {y with cond:=ruD g x} (wr (y.arr pp nn) 5 (#[m.v,vi (ruD g x).2]:Γ).toList):=⟨pp,m,rfl,hp1,K.m⟩;refine st.pinOwn (K:=λF4=>sto F4 (ZX b2 3 ZR) (ZS s1) _) λG5 l5 hrd5 st=> ?_;have K:=K.le l5;have hs1:RL G5 s1 (tokG g x).ZI:=by show RL G5 s1 (g.ZI.modify (x.a % 9) λt=>{t with cond:=ruD g x});rw [Ey _ _ _ hx];exact ⟨_,(hr.set hy').le l5,hrd5⟩
   refine st.set2 (w':=Gr.arr (tokG g x) c n s1 s p l f) (Z8 rfl) rfl λF6 st=> ?_;exact jx (g':=tokG g x) K.lF ⟨c,n,s1,s,p,l,f,rfl,K.gs.c,K.gs.n,hs1,K.gs.s,K.gs.p,K.gs.l,K.gs.f⟩ st.tail
theorem B3 (K:RK F G b3 b5 g x c n t s p l f m) (H:RH g x) {q:Bool} (hk:2<=x.kind % 8) (hq:q=ZT↔(x.kind % 8=2\/x.kind % 8=3))
  (st:St G F1 [pt b7 (ZP ((f0 g x).arr Z3 m) 156),pt b4 (ZP zG 37),pt b2 (ZP (g.arr c n t s p l f) 37)]):
  wi b2 b3 b4 b5 (x.a:Int) p b7 (x.kind:Int) q (LR F (ruleG g x)) F1:=by
 have ep:=K.gs.p.len;have e8:Z5 (x.kind:Int) 8=((x.kind % 8:Nat):Int):=gg x.kind 8;have ka:=H.ka;unfold wi;refine ⟨λh1=> ?_,λh1=> ?_⟩
 ·have hk23:=hq.1 h1;have e:ruleG g x=kA g ⟨((x.kind % 8 - 1:Nat):Int),((x.a % g.ZG.length:Nat):Int),((x.c % 16:Nat):Int),((x.b % g.ZG.length:Nat):Int),0,0,[],ruD g x⟩:=by unfold ruleG;rw [Υ (by omega),Χ (by omega)]
  rw [e];refine ⟨_,ld (st.le _ _ K.q3) rfl,?_⟩;dsimp only;rw [e8,show i64.wrap ((x.kind % 8:Nat):Int)=((x.kind % 8:Nat):Int) from aR (by omega),show i64.wrap ((1:Int)+((x.kind % 8:Nat):Int))=(1:Int)+((x.kind % 8:Nat):Int) from aR (by omega),show i64.wrap ((1:Int)+((x.kind % 8:Nat):Int) - 2)=((x.kind % 8 - 1:Nat):Int) by rw [aR (by omega)];omega];refine st.set0 (w':=Fi.arr ⟨((x.kind % 8 - 1:Nat):Int),0,0,0,0,0,[],ruD g x⟩ Z3 m) (Z8 rfl) rfl λF2 st=> ?_;rw [ep,wN H.a];refine st.set0 (w':=Fi.arr ⟨((x.kind % 8 - 1:Nat):Int),((x.a % g.ZG.length:Nat):Int),0,0,0,0,[],ruD g x⟩ Z3 m) (Z8 rfl) rfl λF3 st=> ?_;refine ⟨_,ld (st.le _ _ K.q3) rfl,?_⟩;dsimp only;rw [show Z5 (i64.wrap (x.c:Int)) (16:Int)=((x.c % 16:Nat):Int) from wN (b:=16) H.c];refine st.set0 (w':=Fi.arr ⟨((x.kind % 8 - 1:Nat):Int),((x.a % g.ZG.length:Nat):Int),((x.c % 16:Nat):Int),0,0,0,[],ruD g x⟩ Z3 m) (Z8 rfl) rfl λF4 st=> ?_;refine ⟨_,ld (st.le _ _ K.q3) rfl,_,st.ld2 rfl,by have:=H.p0;omega,?_⟩;rw [ep,wN H.b];refine st.set0 (w':=Fi.arr ⟨((x.kind % 8 - 1:Nat):Int),((x.a % g.ZG.length:Nat):Int),((x.c % 16:Nat):Int),((x.b % g.ZG.length:Nat):Int),0,0,[],ruD g x⟩ Z3 m) (Z8 rfl) rfl λF5 st=> ?_;exact vO (y:=⟨((x.kind % 8 - 1:Nat):Int),((x.a % g.ZG.length:Nat):Int),((x.c % 16:Nat):Int),((x.b % g.ZG.length:Nat):Int),0,0,[],ruD g x⟩) K H.fl H.dl (by simp) (.nil _) K.m st
 ·have hn23:¬(x.kind % 8=2\/x.kind % 8=3):=λh=>by rw [hq.2 h] at h1;cases h1
  rw [e8];refine ⟨λh4=>B2 K H (by omega) ?_ st,λh4=>B2 K H (by omega) ?_ st⟩
  ·rw [δ];omega
  ·rw [δ];omega
theorem B4 (K:RK F G b3 b5 g x c n t s p l f m) (H:RH g x) {q:Bool} (hq:q=ZT↔(x.kind % 8=0\/x.kind % 8=1))
  (st:St G F1 [pt b7 (ZP ((f0 g x).arr Z3 m) 156),pt b4 (ZP zG 37),pt b2 (ZP (g.arr c n t s p l f) 37)]):
  wj b2 b3 b4 b5 (x.a:Int) p b7 (x.kind:Int) q (LR F (ruleG g x)) F1:=by
 have ep:=K.gs.p.len;have e8:Z5 (x.kind:Int) 8=((x.kind % 8:Nat):Int):=gg x.kind 8;unfold wj;refine ⟨λh1=> ?_,λh1=> ?_⟩
 ·have hk01:=hq.1 h1;have e:ruleG g x=nH g x:=by unfold ruleG;rw [Χ (by omega)]
  rw [e,ep,wN H.a];refine ⟨_,rfl,st.whole2,?_⟩;refine st.runv (oI K.gv _ H.ll H.lp) λG2 F2 l2 st=> ?_;have K:=K.le l2;refine ⟨_,rfl,λhc=> ?_,λhc=> ?_⟩
  ·have hna:((x.a % g.ZG.length:Nat):Int) ∉ g.lvs.flatMap Lv.ps:=by simpa using hc
   refine st.new λb52 F3 st=> ?_;have st:=st.imp (A':=own (Z4 (ZO (ZX b52 0 ZR)) 1 1) 3 1 [vi ((x.a % g.ZG.length:Nat):Int)]) 0 rfl λH _ hH=> .inr ⟨b52,_,rfl,hH,rfl,XS _,rfl,rfl⟩;refine ⟨_,ld (st.le _ _ K.q3) rfl,_,rfl,ac (st.le _ _ K.q5),rfl,?_⟩;rw [show Z5 (x.c:Int) (4:Int)=((x.c % 4:Nat):Int) from gg x.c 4,show i64.wrap ((x.c % 4:Nat):Int)=((x.c % 4:Nat):Int) from aR (by omega)];refine st.new λb8 F4 st=> ?_;refine st.put0 (w':=Lv.arr ⟨[((x.a % g.ZG.length:Nat):Int)],((x.c % 4:Nat):Int),ruD g x⟩ (Z4 (ZO (ZX b52 0 ZR)) 1 1) m) rfl rfl (by simp [am,ZS]) λF5 st=> ?_;refine ⟨_,ld (st.le _ _ K.q3) rfl,_,st.ld4 rfl,by have:=H.p0;omega,?_⟩;have j6:∀{G F':PH} {q6:Bool},RK F G b3 b5 g x c n t s p l f m->(q6=ZT↔(x.b % g.ZG.length≠x.a % g.ZG.length/\((x.b % g.ZG.length:Nat):Int) ∉ g.lvs.flatMap Lv.ps))->
     St G F' [pt b8 (ZP (Lv.arr ⟨[((x.a % g.ZG.length:Nat):Int)],((x.c % 4:Nat):Int),ruD g x⟩ (Z4 (ZO (ZX b52 0 ZR)) 1 1) m) 69),own (Z4 (ZO (ZX b52 0 ZR)) 1 1) 3 1 [vi ((x.a % g.ZG.length:Nat):Int)],pt b7 (ZP ((f0 g x).arr Z3 m) 156),pt b4 (ZP zG 37),pt b2 (ZP (g.arr c n t s p l f) 37)]->
     wg b2 b4 b8 (x.b:Int) p q6 (LR F (nH g x)) F':=λ{G F' q6} K hq6 st=>by
    unfold wg;refine ⟨λh6=> ?_,λh6=> ?_⟩
    ·have e2:nH g x={g with lvs:=g.lvs++[⟨[((x.a % g.ZG.length:Nat):Int),((x.b % g.ZG.length:Nat):Int)],((x.c % 4:Nat):Int),ruD g x⟩]}:=by unfold nH;rw [Υ hna,Χ (hq6.1 h6)]
     rw [e2];refine ⟨_,st.ld0 rfl,?_⟩;rw [ep,wN H.b];refine st.push1 RY (c:= #[vi ((x.b % g.ZG.length:Nat):Int)]) rfl (by simp [am]) (by show 1<=400000000000;decide) λs' G7 F7 l7 st hl7=> ?_;refine st.set0 (w':=Lv.arr ⟨[((x.a % g.ZG.length:Nat):Int),((x.b % g.ZG.length:Nat):Int)],((x.c % 4:Nat):Int),ruD g x⟩ s' m) (Z8 rfl) rfl λF8 st=> ?_;obtain ⟨G9,l9,⟨H9,hA,hH⟩,st⟩:=st.front1.pin;have hps:RL G9 s' [((x.a % g.ZG.length:Nat):Int),((x.b % g.ZG.length:Nat):Int)]:=RL.ints.2 ((bX.rd hA).le hH);have K:=K.le (aa l7 l9);have st:=st.front1.tail;exact B1 (y:=⟨[((x.a % g.ZG.length:Nat):Int),((x.b % g.ZG.length:Nat):Int)],((x.c % 4:Nat):Int),ruD g x⟩) K H.ll hps K.m st
    ·have hn6:¬(x.b % g.ZG.length≠x.a % g.ZG.length/\((x.b % g.ZG.length:Nat):Int) ∉ g.lvs.flatMap Lv.ps):=λh=>by rw [hq6.2 h] at h6;cases h6
     have e2:nH g x={g with lvs:=g.lvs++[⟨[((x.a % g.ZG.length:Nat):Int)],((x.c % 4:Nat):Int),ruD g x⟩]}:=by unfold nH;rw [Υ hna,Υ hn6]
     rw [e2];obtain ⟨G9,l9,⟨H9,hA,hH⟩,st⟩:=st.front1.pin;have hps:RL G9 (Z4 (ZO (ZX b52 0 ZR)) 1 1) [((x.a % g.ZG.length:Nat):Int)]:=RL.ints.2 ((bX.rd hA).le hH);have K:=K.le l9;have st:=st.front1.tail;exact B1 (y:=⟨[((x.a % g.ZG.length:Nat):Int)],((x.c % 4:Nat):Int),ruD g x⟩) K H.ll hps K.m st
   rw [ep,wN H.b];refine ⟨λhne=>⟨_,rfl,st.whole4,?_⟩,λheq=>j6 K ?_ st⟩
   ·refine st.runv (oI K.gv _ H.ll H.lp) λG6 F6 l6 st=> ?_;refine ⟨_,rfl,j6 (K.le l6) ?_ st⟩;simp only [YZ,decide_eq_false_iff_not];exact ⟨λh=>⟨λe=>hne (by rw [e]),h⟩,λh=>h.2⟩
   ·have heq:x.b % g.ZG.length=x.a % g.ZG.length:=by omega
    exact ⟨λh=>(by cases h),λh=>absurd heq h.1⟩
  ·have e2:nH g x=g:=by unfold nH;rw [Χ (by simpa using hc)]
   rw [e2];unfold nR;exact jx K.lF K.gv st.tail
 ·have hn01:¬(x.kind % 8=0\/x.kind % 8=1):=λh=>by rw [hq.2 h] at h1;cases h1
  rw [e8];refine ⟨λh4=>B3 K H (by omega) ?_ st,λh4=>B3 K H (by omega) ?_ st⟩
  ·rw [δ];omega
  ·rw [δ];omega
end
theorem zY {F:PH} {w v:Γ} {g:Gr} {x:Ru} (hg:GV F w g) (hx:Mem.rep F x v) (H:RH g x) (hn:g.ZJ.length<=6):
  ν 84 #[ZU w,ZU v] F (LR F (ruleG g x)):=by
 obtain ⟨c,n,t,s,p,l,f,rfl,hs⟩:=hg;obtain ⟨rfl,hx0,hx1,hx2,hx3,hx4⟩:=hx;have ec:=hs.c.len;have ep:=hs.p.len;refine WH ?_;unfold Se;refine (St.start F).new λb2 F1 st=> ?_;refine st.newG λb3 G1 F2 l1 q3 _ st=> ?_;refine st.new λb4 F3 st=> ?_;refine ⟨_,ld (st.le _ _ q3) rfl,_,st.ld1 rfl,?_⟩;dsimp only;rw [ec];refine st.run (rc x.cond g.ZJ.length hx4 hn _) λ_ G2 F4 hr l2 st=> ?_;obtain ⟨⟨_,rfl,hw⟩,-⟩:=hr;obtain ⟨m,rfl,hm⟩:=hw.out;refine ⟨_,rfl,?_⟩;refine st.var (w:= #[m.v,vi (ruD g x).2]) (by simp [am,ZS]) (λb5 G3 F5 l3 q5 st=> ?_) rfl rfl;have l23:=aa l2 l3;have l13:=aa l1 l23;have K:RK F G3 b3 b5 g x c n t s p l f m:=⟨l13,l23 _ _ q3,q5,hs.le l13,hm.le l3⟩;refine ⟨_,ld (st.le _ _ K.q3) rfl,_,st.ld1 rfl,by have:=H.p0;omega,_,rfl,ac (st.le _ _ K.q5),rfl,?_⟩;refine st.new λb7 F6 st=> ?_;refine st.put0 (w':=(f0 g x).arr Z3 m) rfl rfl (by simp [am,ZS]) λF7 st=> ?_;have e8:Z5 (x.kind:Int) 8=((x.kind % 8:Nat):Int):=gg x.kind 8;refine ⟨_,ld (st.le _ _ K.q3) rfl,?_⟩;dsimp only;rw [e8];refine ⟨λh4=>B4 K H ?_ st,λh4=>B4 K H ?_ st⟩
 ·rw [δ];omega
 ·rw [δ];omega
theorem vP (l:Φ) {n:Nat} (hn:n<=6):∀(m v k:Nat),v+m=n->Sx n (jj l m v k)
 |0,v,k,_=>Sx.ZL n _
 |m+1,v,k,h=>by unfold jj;have hv:Sx n (tv v):=Sx.tv (by omega) hn;exact (hv.ap2 (vP l hn m (v+1) _ (by omega))).ap2 ((vP l hn m (v+1) k (by omega)).ap2 (hv.ap2 (Sx.ZL n ZT)))
theorem jW {b n:Nat} (hn:n<=6):Sx n (ji b n):=by
 unfold ji;split
 ·exact Sx.ZL n ZT
 ·rename_i h;have hv:b / 6 % n<n:=YT _ (by omega);split
  ·exact Sx.tv hv hn
  ·split
   ·exact (Sx.tv hv hn).ap2 (Sx.ZL n ZT)
   ·exact vP _ hn n 0 0 (by omega)
theorem Sx.brl {n:Nat} {t:Tr} (h:Sx n t) (hn:n<=6):(dia t).1.length<=63:=by have:(dia t).1.length=(bo t).length:=aP _;rw [this];exact h.len hn
structure Rw where
 ZK:Nat
 n:Nat
 fam:Δ
 lines:List Ln
 rules:List Ru
structure zZ (F:PH) (v:Γ) (x:Rw):Prop where
 ex:∃sf sl sr:Sl,v= #[vB x.ZK,vB x.n,sf.v,sl.v,sr.v]/\RdS F sf 1 (x.fam.map vB)/\RL F sl x.lines/\RL F sr x.rules
 b:x.ZK<256
 n:x.n<256
theorem zZ.le {F G:PH} {v:Γ} {x:Rw} (h:zZ F v x) (hl:F.le G):zZ G v x:=by obtain ⟨⟨sf,sl,sr,h1,h2,h3,h4⟩,h5,h6⟩:=h;exact ⟨⟨sf,sl,sr,h1,h2.le hl,h3.le hl,h4.le hl⟩,h5,h6⟩
def bO (x:Rw):Bool:=decide (x.ZK % 8<6)
def fN (x:Rw):List ο:=([⟨#[83]⟩,⟨#[80]⟩,⟨#[81]⟩]:List ο).take (1+x.n / 4 % 3)
def jy (x:Rw):List ο:=([⟨#[65]⟩,⟨#[66]⟩,⟨#[67]⟩]:List ο).take (x.n % 4)
def dE (x:Rw):Gr:=if bO x=ZT then cq (x.ZK % 8) else {cO (fN x) with ZJ:=jy x,ZG:=[bH ⟨#[102,105,114,115,116]⟩ 0 [⟨ZT,0⟩]]}
def ya (x:Rw) (n:Nat):Tr:=jj (x.fam.map λk:Nat=>(k:Int)) n 0 0
def famG (x:Rw) (g:Gr):Gr:=if x.fam≠[]/\(dia (ya x g.ZJ.length)).2≠0 then {g with fam:=dia (ya x g.ZJ.length)} else g
def cV (x:Rw):Nat:=if bO x=ZT then 6 else 10
def dU (x:Rw) (l:List Ln) (g:Gr):Gr:=l.foldl (λg y=>lineG g y (bO x)) g
def eA (l:List Ru) (g:Gr):Gr:=l.foldl ruleG g
def dy (x:Rw):Gr:=eA (x.rules.take 6) (dU x (x.lines.take (cV x)) (famG x (dE x)))
structure Bd (g:Gr) (np nl:Nat):Prop where
 c:g.ZJ.length<=3
 n0:g.ZH.length≠0
 n:g.ZH.length<=3
 p0:g.ZG.length≠0
 p:g.ZG.length<=np
 t:g.ZI.length=11
 l:g.lvs.length<=nl
 lp:∀y∈g.lvs,y.ps.length<=2
 f:g.fils.length<=nl
theorem Gm {k:Nat} (hk:k<6):Bd (cq k) 8 4:=by
  have h:k=0\/k=1\/k=2\/k=3\/k=4\/k=5:=by omega
  rcases h with rfl|rfl|rfl|rfl|rfl|rfl
  all_goals
    refine ⟨by decide,by decide,by decide,by decide,by decide,rfl,by decide,λy hy=> ?_,by decide⟩;first
      |(have:=hy;cases this;done)
      | (rcases XP.1 hy with rfl|hy
         · decide
         rcases XP.1 hy with rfl|hy
         · decide
         rcases XP.1 hy with rfl|hy
         · decide
         cases hy)
theorem rj (x:Rw):Bd (dE x) 8 4:=by
 unfold dE;split
 ·rename_i h;exact Gm (ε h)
 ·have h1:(fN x).length=1+x.n / 4 % 3:=by unfold fN;rw [XX];simp;omega
  have h2:(jy x).length<=3:=by unfold jy;rw [XX];simp;omega
  exact ⟨h2,by show (fN x).length≠0;omega,by show (fN x).length<=3;omega,by show (1:Nat)≠0;decide,by show 1<=8;decide,rfl,by show 0<=4;decide,λy hy=>(by cases hy),by show 0<=4;decide⟩
theorem Gp {x:Rw} {g:Gr} {a b:Nat} (h:Bd g a b):Bd (famG x g) a b:=by
 unfold famG;split
 ·exact ⟨h.c,h.n0,h.n,h.p0,h.p,h.t,h.l,h.lp,h.f⟩
 ·exact h
theorem B5 {g:Gr} {a b:Nat} (h:Bd g a b) (y:Ln) (kn:Bool):Bd (lineG g y kn) (a+1) b:=by
 have hp:=h.p;unfold lineG;split
 ·exact ⟨h.c,h.n0,h.n,h.p0,by omega,h.t,h.l,h.lp,h.f⟩
 ·exact ⟨h.c,h.n0,h.n,by show (g.ZG++_).length≠0;rw [XT];have:=h.p0;omega,by show (g.ZG++[_]).length<=_;rw [XT,X3];omega,h.t,h.l,h.lp,h.f⟩
theorem z6 {g:Gr} {a b:Nat} (h:Bd g a b) (y:Fi):Bd (kA g y) a (b+1):=by
 have hf:=h.f;have hl:=h.l;unfold kA;split
 ·exact ⟨h.c,h.n0,h.n,h.p0,h.p,h.t,by show g.lvs.length<=_;omega,h.lp,by show (g.fils++[_]).length<=_;rw [XT,X3];omega⟩
 ·exact ⟨h.c,h.n0,h.n,h.p0,h.p,h.t,by omega,h.lp,by omega⟩
theorem B6 {g:Gr} {a b:Nat} (h:Bd g a b) (y:Ru):Bd (ruleG g y) a (b+1):=by
 have hf:=h.f;have hl:=h.l;unfold ruleG;split
 ·unfold nH;split
  ·exact ⟨h.c,h.n0,h.n,h.p0,h.p,h.t,by omega,h.lp,by omega⟩
  ·refine ⟨h.c,h.n0,h.n,h.p0,h.p,h.t,by show (g.lvs++[_]).length<=_;rw [XT,X3];omega,λz hz=> ?_,by show g.fils.length<=_;omega⟩;rcases XR.1 hz with hz|hz
   ·exact h.lp z hz
   ·rw [XO.1 hz];simp only [X4];split<;>simp
 ·split
  ·exact z6 h _
  ·split
   ·exact z6 h _
   ·split
    ·exact z6 h _
    ·unfold tokG;exact ⟨h.c,h.n0,h.n,h.p0,h.p,by show (g.ZI.modify _ _).length=11;rw [List.length_modify];exact h.t,by show g.lvs.length<=_;omega,h.lp,by show g.fils.length<=_;omega⟩
theorem rk {x:Rw}:∀(l:List Ln) {g:Gr} {a b:Nat},Bd g a b->Bd (dU x l g) (a+l.length) b
 |[],g,a,b,h=>h
 |y::l,g,a,b,h=>by have:=rk (x:=x) l (B5 h y (bO x));rw [X4,show a+(l.length+1)=a+1+l.length by omega];exact this
theorem rm:∀(l:List Ru) {g:Gr} {a b:Nat},Bd g a b->Bd (eA l g) a (b+l.length)
 |[],g,a,b,h=>h
 |y::l,g,a,b,h=>by have:=rm l (B6 h y);rw [X4,show b+(l.length+1)=b+1+l.length by omega];exact this
theorem Bd.rh {g:Gr} {a b:Nat} (h:Bd g a b) (ha:a<=1000) (hb:b<=1000) {F:PH} {y:Ru} {v:Γ} (hy:Mem.rep F y v):RH g y:=by obtain ⟨-,h1,h2,h3,h4,h5⟩:=hy;have h6:=h.c;have h7:=h.n;have h8:=h.p;have h9:=h.t;have h10:=h.l;have h11:=h.f;exact ⟨h1,h2,h3,h4,by omega,h.p0,by omega,h.n0,by omega,by omega,by omega,λz hz=>by have:=h.lp z hz;omega,by omega,by have:=(jW (b:=y.cond) (n:=g.ZJ.length) (by omega)).brl (by omega);show (dia (ji y.cond g.ZJ.length)).1.length<=_;omega⟩
section
variable {F G F1:PH} {b1 b2 b4:Nat} {x:Rw} {g:Gr} {w:Γ} {sf sl sr:Sl}
structure WK (F G:PH) (b1:Nat) (x:Rw) (sf sl sr:Sl):Prop where
 lF:F.le G
 q1:G b1=ZO (ZP #[vB x.ZK,vB x.n,sf.v,sl.v,sr.v] 26)
 rf:RdS G sf 1 (x.fam.map vB)
 rl:RL G sl x.lines
 rr:RL G sr x.rules
theorem WK.le {G':PH} (h:WK F G b1 x sf sl sr) (hl:G.le G'):WK F G' b1 x sf sl sr:=⟨aa h.lF hl,hl _ _ h.q1,h.rf.le hl,h.rl.le hl,h.rr.le hl⟩
theorem J8 (K:WK F G b1 x sf sl sr) (hg:GV G w g) (st:St G F1 [pt b4 (ZP w 37),pt b2 (ZP zG 37)]):rI b2 b4 (LR F g) F1:=by unfold rI;refine ⟨_,hg.size,st.whole0,?_⟩;refine st.put1 (w':=w) hg.size rfl hg.st λF3 h=> ?_;exact ⟨_,hg.size,h.whole1,⟨_,rfl,hg.le h.le⟩,aa K.lF h.le⟩
theorem yb (l:List Ln) (y:Ln):dU x (l++[y]) g=lineG (dU x l g) y (bO x):=by simp [dU]
theorem yc (l:List Ru) (y:Ru):eA (l++[y]) g=ruleG (eA l g) y:=by simp [eA]
theorem J9 {a:Nat} (K:WK F G b1 x sf sl sr) (hg:GV G w g) (hb:Bd g a 4) (ha:a<=100) (st:St G F1 [pt b4 (ZP w 37),pt b2 (ZP zG 37)]):
  rJ b1 b2 b4 (LR F (eA (x.rules.take 6) g)) F1:=by
 have er:=K.rr.len;unfold rJ;refine bi (Ar · b1 b2 b4 _) (min 6 x.rules.length) (λk F'=>∃G' w,WK F G' b1 x sf sl sr/\GV G' w (eA (x.rules.take k) g)/\St G' F' [pt b4 (ZP w 37),pt b2 (ZP zG 37)]) ⟨G,w,K,hg,st⟩ ?_;rintro k F' N hk ⟨G',w,K,hg,st⟩ next;unfold Ar;have done:k=min 6 x.rules.length->rI b2 b4 (LR F (eA (x.rules.take 6) g)) F':=λe=>by
  have e2:x.rules.take k=x.rules.take 6:=by
   rw [e];by_cases h6:6<=x.rules.length
   ·rw [Nat.min_eq_left h6]
   ·rw [Nat.min_eq_right (by omega),XZ,XY (by omega)]
  rw [<- e2];exact J8 K hg st
 refine ⟨_,ld (st.le _ _ K.q1) rfl,λh1=>⟨λh2=> ?_,λh2=>done (by omega)⟩,λh1=>done (by omega)⟩;have hkl:k<x.rules.length:=by omega
 have hx:=N6 hkl;generalize x.rules[k]=y at hx;obtain ⟨ad,cc,had,hrow,hc⟩:=K.rr.get (by decide) hx;have hb2:=rm (x.rules.take k) hb;rw [XX] at hb2;refine ⟨_,hg.size,st.whole0,_,ld (st.le _ _ K.q1) rfl,_,had,by omega,by omega,cc,Mem.len hc,by rw [N5];exact aT st.le hrow,?_⟩;refine st.run (zY hg hc (hb2.rh (by omega) (by omega) hc) (by have:=hb2.c;omega)) λ_ G2 F2 hr l2 st=> ?_;obtain ⟨w2,rfl,hw2⟩:=hr;have K:=K.le l2;refine ⟨_,rfl,ld (st.le _ _ K.q1) rfl,?_⟩;refine st.put0 (w':=w2) hw2.size hg.size hw2.st λF3 st=> ?_;rw [aC (n:=min 6 x.rules.length) (by omega) (by omega)];refine next _ (by omega) ⟨G2,w2,K,?_,st⟩;rw [aQ hx,yc];exact hw2
theorem B7 (K:WK F G b1 x sf sl sr) (hg:GV G w g) (hb:Bd g 8 4) (st:St G F1 [pt b4 (ZP w 37),pt b2 (ZP zG 37)]):
  wa b1 b2 (x.ZK:Int) b4 ((cV x:Nat):Int) (LR F (eA (x.rules.take 6) (dU x (x.lines.take (cV x)) g))) F1:=by
 have el:=K.rl.len;have hm:cV x<=10:=by unfold cV;split<;>decide
 unfold wa;refine bi (At · b1 b2 (x.ZK:Int) b4 ((cV x:Nat):Int) _) (min (cV x) x.lines.length) (λk F'=>∃G' w,WK F G' b1 x sf sl sr/\GV G' w (dU x (x.lines.take k) g)/\St G' F' [pt b4 (ZP w 37),pt b2 (ZP zG 37)]) ⟨G,w,K,hg,st⟩ ?_;rintro k F' N hk ⟨G',w,K,hg,st⟩ next;unfold At;have hb2:=rk (x:=x) (x.lines.take k) hb;rw [XX] at hb2;have done:k=min (cV x) x.lines.length->rJ b1 b2 b4 (LR F (eA (x.rules.take 6) (dU x (x.lines.take (cV x)) g))) F':=λe=>by
  have e2:x.lines.take k=x.lines.take (cV x):=by
   rw [e];by_cases h6:cV x<=x.lines.length
   ·rw [Nat.min_eq_left h6]
   ·rw [Nat.min_eq_right (by omega),XZ,XY (by omega)]
  rw [<- e2];exact J9 K hg hb2 (by omega) st
 refine ⟨_,ld (st.le _ _ K.q1) rfl,λh1=>⟨λh2=> ?_,λh2=>done (by omega)⟩,λh1=>done (by omega)⟩;have hkl:k<x.lines.length:=by omega
 have hx:=N6 hkl;generalize x.lines[k]=y at hx;obtain ⟨ad,cc,had,hrow,hc⟩:=K.rl.get (by decide) hx;refine ⟨_,hg.size,st.whole0,_,ld (st.le _ _ K.q1) rfl,_,had,by omega,by omega,cc,Mem.len hc,by rw [N5];exact aT st.le hrow,?_⟩;have ek:decide (Z5 (x.ZK:Int) (8:Int)<6)=bO x:=by unfold bO;rw [show Z5 (x.ZK:Int) (8:Int)=((x.ZK % 8:Nat):Int) from gg x.ZK 8];exact decide_eq_decide.2 (by omega)
 rw [ek];refine st.run (Ew (cq:=bO x) hg hc (by have:=hb2.c;omega) (by have:=hb2.p;omega) hb2.n0 (by have:=hb2.n;omega)) λ_ G2 F2 hr l2 st=> ?_;obtain ⟨w2,rfl,hw2⟩:=hr;have K:=K.le l2;refine ⟨_,rfl,ld (st.le _ _ K.q1) rfl,?_⟩;refine st.put0 (w':=w2) hw2.size hg.size hw2.st λF3 st=> ?_;rw [aC (n:=min (cV x) x.lines.length) (by omega) (by omega)];refine next _ (by omega) ⟨G2,w2,K,?_,st⟩;rw [aQ hx,yb];exact hw2
theorem B8 (K:WK F G b1 x sf sl sr) (hg:GV G w g) (hb:Bd g 8 4) (st:St G F1 [pt b4 (ZP w 37),pt b2 (ZP zG 37)]):
  wb b1 b2 (x.ZK:Int) b4 ((cV x:Nat):Int) (LR F (eA (x.rules.take 6) (dU x (x.lines.take (cV x)) (famG x g)))) F1:=by
 have hg0:=hg;obtain ⟨c,n,t,s,p,l,f,rfl,hs⟩:=hg;have ec:=hs.c.len;have ef:=K.rf.len;rw [XW,Yj] at ef;have hn:g.ZJ.length<=6:=by have:=hb.c;omega
 unfold wb;refine ⟨_,ld (st.le _ _ K.q1) rfl,_,st.ld0 rfl,?_⟩;dsimp only;rw [ec];have hr1:RdS G sf 1 ((x.fam.map λk:Nat=>(k:Int)).map (Z0 .u8)):=by rw [List.map_map];exact K.rf
 refine st.run (P:=λr G=>lI (dia (ya x g.ZJ.length)) r G) ((oO hn hr1).mono λr F' ⟨u,t,h1,⟨h2,h3⟩,h4,h5⟩=>⟨⟨u,h1,by subst h3;exact h4⟩,h5⟩) λ_ G2 F2 hr l2 st=> ?_;obtain ⟨_,rfl,hw⟩:=hr;obtain ⟨m,rfl,hm⟩:=hw.out;have K:=K.le l2;refine ⟨_,rfl,?_⟩;refine st.var (w:= #[m.v,vi (dia (ya x g.ZJ.length)).2]) (by simp [am,ZS]) (λb6 G3 F3 l3 q6 st=> ?_) rfl rfl;have K:=K.le l3;have l23:=aa l2 l3;have no:famG x g=g->rK b1 b2 (x.ZK:Int) b4 ((cV x:Nat):Int) b6 ZQ (LR F (eA (x.rules.take 6) (dU x (x.lines.take (cV x)) (famG x g)))) F3:=λe=>by rw [e];unfold rK;exact ⟨λh=>(by cases h),λ_=>B7 K (hg0.le l23) hb st⟩
 refine ⟨_,ld (st.le _ _ K.q1) rfl,λh1=>⟨_,ld (st.le _ _ q6) rfl,?_⟩,λh1=>no ?_⟩
 ·by_cases h2:(dia (ya x g.ZJ.length)).2≠0
  ·dsimp only;rw [decide_eq_true h2];have e:famG x g={g with fam:=dia (ya x g.ZJ.length)}:=by unfold famG;rw [if_pos ⟨λe=>by rw [e] at ef;simp at ef;omega,h2⟩]
   have hb2:=Gp (x:=x) hb;rw [e] at hb2 ⊢;unfold rK;refine ⟨λ_=>⟨_,rfl,ac (st.le _ _ q6),?_⟩,λh=>(by cases h)⟩;refine st.putR0 (o:=1) (w':=Gr.arr {g with fam:=dia (ya x g.ZJ.length)} c m t s p l f) rfl (by simp [am,ZS]) (by show 1+2<=9;decide) rfl λF4 st=> ?_;exact B7 K ⟨c,m,t,s,p,l,f,rfl,hs.c.le l23,hm.le l3,hs.t.le l23,hs.s.le l23,hs.p.le l23,hs.l.le l23,hs.f.le l23⟩ hb2 st
  ·dsimp only;rw [decide_eq_false h2];exact no (by unfold famG;rw [if_neg (λh=>h2 h.2)])
 ·unfold famG;rw [Υ];rintro ⟨h,_⟩;exact h (X9 (by omega))
theorem yd {v:Γ} (hx:zZ F v x):ν 32 #[ZU v] F (LR F (dy x)):=by
 obtain ⟨⟨sf,sl,sr,rfl,h1,h2,h3⟩,hbase,hn⟩:=hx;refine Wz ?_;unfold R0;refine (St.start F).newG λb1 G1 F1 l1 q1 _ st=> ?_;have K:WK F G1 b1 x sf sl sr:=⟨l1,q1,h1.le l1,h2.le l1,h3.le l1⟩;clear q1;refine st.new λb2 F2 st=> ?_;have e8:Z5 (x.ZK:Int) (8:Int)=((x.ZK % 8:Nat):Int):=gg x.ZK 8;refine ⟨_,ld (st.le _ _ K.q1) rfl,_,ld (st.le _ _ K.q1) rfl,?_⟩;rw [e8];refine st.run (zW (x.ZK % 8) _) λ_ G2 F3 hr l2 st=> ?_;obtain ⟨w,rfl,hw⟩:=hr;have K:=K.le l2;refine ⟨_,rfl,?_⟩;refine st.new λb4 F4 st=> ?_;refine st.put0 (w':=w) hw.size rfl hw.st λF5 st=> ?_;have hbs:=rj x;unfold dy;refine ⟨λhk=> ?_,λhk=> ?_⟩
 ·have hkn:bO x=ZQ:=by unfold bO;exact ι (by omega)
  have e:dE x={cO (fN x) with ZJ:=jy x,ZG:=[bH ⟨#[102,105,114,115,116]⟩ 0 [⟨ZT,0⟩]]}:=by unfold dE;rw [hkn,Υ (by decide)]
  rw [e] at hbs ⊢;have hm:cV x=10:=by unfold cV;rw [hkn,Υ (by decide)]
  refine st.newG λb19 G3 F6 l3 q19 _ st=> ?_;have K:=K.le l3;have ei:i64.wrap ((1:Int)+(Z5 (i64.wrap (u8.wrap (Int.tdiv (x.n:Int) (4:Int)))) (3:Int)))=((1+x.n / 4 % 3:Nat):Int):=by rw [Y1 (by omega),show (x.n:Int) / 4=((x.n / 4:Nat):Int) by omega,x7 (by omega),show Z5 (i64.wrap ((x.n / 4:Nat):Int)) (3:Int)=((x.n / 4 % 3:Nat):Int) from wN (b:=3) (by omega),aR (by omega)];omega
  have ej:i64.wrap (Z5 (x.n:Int) (4:Int))=((x.n % 4:Nat):Int):=by rw [show Z5 (x.n:Int) (4:Int)=((x.n % 4:Nat):Int) from gg x.n 4,aR (by omega)]
  refine ⟨_,ld (st.le _ _ K.q1) rfl,?_⟩;dsimp only;rw [ei,N5];refine ⟨by omega,by omega,by show _<=3;omega,?_⟩;have hr19:RdS G3 (Z4 (ZO (ZX b19 0 ZR)) 3 3) 1 (([⟨#[83]⟩,⟨#[80]⟩,⟨#[81]⟩]:List ο).map Z1):=RdS.new q19 rfl rfl (XS _);have hs19:RL G3 (Sl.cut (Z4 (ZO (ZX b19 0 ZR)) 3 3) 1 0 (1+x.n / 4 % 3) 3) (fN x):=by refine RL.strs.2 ?_;have:=hr19.cut (l:=0) (r:=1+x.n / 4 % 3) (m:=3) (by omega) (by show _<=3;omega) (by omega);rw [Y0,Yw,Yj,Y9,<- List.map_take] at this;exact this
  refine st.run (nF hs19) λ_ G4 F7 hr l4 st=> ?_;obtain ⟨c,n,t,rfl,k1,k2,k3,k4⟩:=hr;have K:=K.le l4;refine ⟨_,rfl,?_⟩;refine st.put0 (w':=(cO (fN x)).arr c n t (Sl.cut (Z4 (ZO (ZX b19 0 ZR)) 3 3) 1 0 (1+x.n / 4 % 3) 3) Z3 Z3 Z3) rfl hw.size (by simp [am,ZS]) λF8 st=> ?_;refine st.newG λb28 G5 F9 l5 q28 _ st=> ?_;have K:=K.le l5;refine ⟨_,ld (st.le _ _ K.q1) rfl,?_⟩;dsimp only;rw [ej,N5];refine ⟨by omega,by omega,by show _<=3;omega,?_⟩;have hr28:RdS G5 (Z4 (ZO (ZX b28 0 ZR)) 3 3) 1 (([⟨#[65]⟩,⟨#[66]⟩,⟨#[67]⟩]:List ο).map Z1):=RdS.new q28 rfl rfl (XS _);have hs28:RL G5 (Sl.cut (Z4 (ZO (ZX b28 0 ZR)) 3 3) 1 0 (x.n % 4) 3) (jy x):=by refine RL.strs.2 ?_;have:=hr28.cut (l:=0) (r:=x.n % 4) (m:=3) (by omega) (by show _<=3;omega) (by omega);rw [Y0,Yw,Yj,Y9,<- List.map_take] at this;exact this
  generalize Sl.cut (Z4 (ZO (ZX b19 0 ZR)) 3 3) 1 0 (1+x.n / 4 % 3) 3=s at*;generalize Sl.cut (Z4 (ZO (ZX b28 0 ZR)) 3 3) 1 0 (x.n % 4) 3=c' at*;refine st.set0 (w':=Gr.arr {cO (fN x) with ZJ:=jy x} c' n t s Z3 Z3 Z3) (Z8 rfl) rfl λF10 st=> ?_;refine ⟨Z3,st.ld0 rfl,?_⟩;refine st.runv (kS 0 _) λG6 F11 l6 st=> ?_;refine ⟨_,rfl,st.ld0 rfl,rfl,?_⟩;refine st.newG λb38 G7 F12 l7 q38 _ st=> ?_;have hsy:RL G7 (Z4 (ZO (ZX b38 0 ZR)) 1 1) [(⟨ZT,0⟩:Sy)]:=⟨[_],.cons rfl .nil,RdS.new q38 rfl rfl (XS _)⟩;refine st.run (ul ⟨#[102,105,114,115,116]⟩ 0 hsy) λ_ G8 F13 hr l8 st=> ?_;obtain ⟨w2,rfl,hw2⟩:=hr;refine ⟨_,rfl,st.ld0 rfl,Mem.len hw2,?_⟩;obtain ⟨_,_,T⟩:=OU;refine (st.nilOwn 55 13).push0 T (c:=w2) (Mem.len hw2) (Mem.st hw2) (by decide) λs' G9 F14 l9 st hl'=> ?_;obtain ⟨G10,l10,⟨H,hA,hH⟩,st⟩:=st.pin;have hps:RL G10 s' [bH ⟨#[102,105,114,115,116]⟩ 0 [(⟨ZT,0⟩:Sy)]]:=⟨[w2],.cons (Mem.le (aa l9 l10) hw2) .nil,by rw [cL];exact (bX.rd hA).le hH⟩;refine st.set0 (w':=Gr.arr {cO (fN x) with ZJ:=jy x,ZG:=[bH ⟨#[102,105,114,115,116]⟩ 0 [⟨ZT,0⟩]]} c' n t s s' Z3 Z3) (Z8 rfl) rfl λF15 st=> ?_;have l5e:G5.le G10:=aa l6 (aa l7 (aa l8 (aa l9 l10)));have l4e:=aa l5 l5e;have:=B8 (K.le l5e) (g:={cO (fN x) with ZJ:=jy x,ZG:=[bH ⟨#[102,105,114,115,116]⟩ 0 [⟨ZT,0⟩]]}) ⟨c',n,t,s,s',Z3,Z3,rfl,hs28.le l5e,k2.le l4e,k3.le l4e,k4.le l4e,hps,.nil _,.nil _⟩ hbs st;rw [hm] at this ⊢;exact this
 ·have hkn:bO x=ZT:=by unfold bO;exact ζ (by omega)
  have e:dE x=cq (x.ZK % 8):=by unfold dE;rw [hkn,Χ rfl]
  rw [e] at hbs ⊢;have hm:cV x=6:=by unfold cV;rw [hkn,Χ rfl]
  have h6:x.ZK % 8 % 6=x.ZK % 8:=Nat.mod_eq_of_lt (by omega);rw [h6] at hw;have:=B8 K hw hbs st;rw [hm] at this ⊢;exact this
end
theorem nI {n:Nat}:∀(t:Tr) (S:List Tr),(∀x∈S,∃v l h,x=ZM v l h/\v<n)->eK n t->∀x∈vis t S,∃v l h,x=ZM v l h/\v<n
 |ZL _,S,hS,_=>hS
 |ZM v l h,S,hS,⟨h1,h2,h3⟩=>by
  unfold vis;split
  ·exact hS
  ·intro x hx;rcases XR.1 hx with hx|hx
   ·exact nI h _ (nI l S hS h2) h3 x hx
   ·rw [XO.1 hx];exact ⟨v,l,h,rfl,h1⟩
theorem Sx.fit {n:Nat} {t:Tr} (h:Sx n t) (hn:n<=6):iI (dia t) n:=by refine ⟨CN h.1 (by have:=h.len hn;omega),λb hb=> ?_⟩;obtain ⟨x,hx,rfl⟩:=X1.1 (show b∈(bo t).map (br (bo t)) from hb);obtain ⟨v,l,r,rfl,hv⟩:=nI t [] (λx hx=>(by cases hx)) h.2 x hx;show (v:Int)<n;omega
theorem Gq {t:Tr} (h:(dia t).2=0):t=ZL ZQ:=by
 cases t with
 |ZL b=>cases b with
  |false=>rfl
  |true=>cases h
 |ZM v l r=>have:((num (bo (ZM v l r)) (ZM v l r):Nat):Int)=0:=h;simp only [num] at this;omega
def SxD (n:Nat) (d:Dia):Prop:=∃t,Sx n t/\d=dia t
theorem SxD.fit {n:Nat} {d:Dia} (h:SxD n d) (hn:n<=6):iI d n:=by obtain ⟨t,h,rfl⟩:=h;exact h.fit hn
theorem SxD.len {n:Nat} {d:Dia} (h:SxD n d) (hn:n<=6):d.1.length<=63:=by obtain ⟨t,h,rfl⟩:=h;exact h.brl hn
theorem aU (n:Nat):SxD n aM:=⟨_,Sx.ZL n ZT,rfl⟩
instance (i:Nat) (x:Nd):Decidable (okN i x):=by unfold okN;infer_instance
theorem vQ {l:List Nd} (h1:l≠[]) (h2:∀i:Fin l.length,okN i.1 (l[i.1]'i.2)) (h3:(usL l).Nodup) (h4:∀i:Fin (l.length - 1),(i.1:Int)∈usL l):GoodL l:=
 ⟨h1,λi x hx=>by obtain ⟨hi,rfl⟩:=XN.1 hx;exact h2 ⟨i,hi⟩,h3,λi hi=>h4 ⟨i,by omega⟩⟩
theorem vR {l:List Nd} (h:GoodL l) (hl:l.length<=512):fL l=0:=by unfold fL;rw [Υ (by omega),Χ h]
theorem B9:GoodL lJ.pat:=vQ (by decide) (by decide) (by decide) (by decide)
theorem z7:GoodL jQ.pat:=vQ (by decide) (by decide) (by decide) (by decide)
theorem ye:GoodL gW.pat:=vQ (by decide) (by decide) (by decide) (by decide)
theorem Ka:LgL lJ.pat (bs lJ.smp):=by
 obtain ⟨ns,h⟩:=iP B9;unfold LgL;generalize bU lJ.pat=t at h;have e3:lJ.pat[lJ.pat.length - 1]? =ZO ⟨2,0,0,0,2⟩:=rfl;have e0:lJ.pat[0]? =ZO ⟨1,97,122,0,0⟩:=rfl;have e2:lJ.pat[2]? =ZO ⟨4,0,0,1,0⟩:=rfl;cases h with
 |emp hx hk=>rw [e3] at hx;cases hx;cases hk
 |rng hx hk=>rw [e3] at hx;cases hx;cases hk
 |alt hx hk=>rw [e3] at hx;cases hx;cases hk
 |rep hx hk=>rw [e3] at hx;cases hx;cases hk
 | @seq _ a b x t u na nb hx hk ha hb h1 h2=>
  rw [e3] at hx;cases hx;obtain rfl:a=0:=by have:(0:Int)=a:=ha;omega
  obtain rfl:b=2:=by have:(2:Int)=b:=hb;omega
  refine ⟨[120],[],rfl,?_,?_⟩
  ·cases h1 with
   |emp hx hk=>rw [e0] at hx;cases hx;cases hk
   |seq hx hk=>rw [e0] at hx;cases hx;cases hk
   |alt hx hk=>rw [e0] at hx;cases hx;cases hk
   |rep hx hk=>rw [e0] at hx;cases hx;cases hk
   | @rng _ lo hi x hx hk hlo hhi _ _=>
    rw [e0] at hx;cases hx;refine ⟨120,rfl,?_,?_⟩
    ·have:(97:Int)=lo:=hlo;omega
    ·have:(122:Int)=hi:=hhi;omega
  ·cases h2 with
   |emp hx hk=>rw [e2] at hx;cases hx;cases hk
   |seq hx hk=>rw [e2] at hx;cases hx;cases hk
   |alt hx hk=>rw [e2] at hx;cases hx;cases hk
   |rng hx hk=>rw [e2] at hx;cases hx;cases hk
   |rep hx hk ha h=>exact .nil
abbrev rq (t:Tk):Tk:={t with cond:=aM}
def Rb (done:List ο) (t:Tk):Prop:=t.name≠emp/\t.name ∉ done/\0<=t.cls/\t.cls<=2/\(t.lit≠emp->t.smp=emp/\t.pat=[])/\(t.lit=emp->fL t.pat=0/\(t.cls=0->t.smp≠emp/\LgL t.pat (bs t.smp))/\(t.cls≠0->t.smp=emp))
def Gs (done:List ο):List Tk->Prop
 |[]=>True
 |t::r=>Rb done t/\Gs (done++[t.name]) r
theorem yf {n:Nat}:∀(l:List Tk) (done:List ο),Gs done (l.map rq)->(∀t∈l,iI t.cond n)->dn n done l
 |[],_,_,_=>trivial
 |t::l,done,⟨⟨h1,h2,h3,h4,h5,h6⟩,h⟩,hf=>⟨⟨h1,h2,h3,h4,hf t (by simp),h5,h6⟩,yf l _ h λx hx=>hf x (by simp [hx])⟩
theorem jz {done:List ο} {x:ο} (h1:x≠emp) (h2:x ∉ done):Rb done (tkL x):=⟨h1,h2,Zv 0,by show (0:Int)<=2;decide,λ_=>⟨rfl,rfl⟩,λh=>absurd h h1⟩
theorem Gt:Gs [] dS:=by
 refine ⟨⟨by decide,by decide,by decide,by decide,λh=>absurd rfl h,λ_=>⟨vR B9 (by decide),λ_=>⟨by decide,Ka⟩,λh=>absurd rfl h⟩⟩,jz (by decide) (by decide),jz (by decide) (by decide),jz (by decide) (by decide),jz (by decide) (by decide),jz (by decide) (by decide),jz (by decide) (by decide),jz (by decide) (by decide),jz (by decide) (by decide),?_,?_,trivial⟩
 ·exact ⟨by decide,by decide,by decide,by decide,λh=>absurd rfl h,λ_=>⟨vR z7 (by decide),λh=>(by cases h),λ_=>rfl⟩⟩
 ·exact ⟨by decide,by decide,by decide,by decide,λh=>absurd rfl h,λ_=>⟨vR ye (by decide),λh=>(by cases h),λ_=>rfl⟩⟩
def abc:List ο:=[⟨#[65]⟩,⟨#[66]⟩,⟨#[67]⟩]
structure PrI (n nn:Nat) (p:Pr):Prop where
 cond:SxD n p.cond
 left:0<=p.left/\p.left<nn
 rl:p.right.length<=5
 right:∀s∈p.right,0<=s.i/\(s.t=ZT->s.i<9)/\(s.t=ZQ->s.i<nn)
 rank: -1<=p.rank/\p.rank<=1
 lay:p.lay.length<=2
 det:nL p
 nm:p.name≠emp/\p.name.size<=13
structure MG (g:Gr):Prop where
 cs:∃n,n<=3/\g.ZJ=abc.take n
 fam:∃t,Sx g.ZJ.length t/\t≠ZL ZQ/\g.fam=dia t
 ZH:bA g.ZH/\∀s∈g.ZH,s.size<=10
 start:g.start=0
 ZI:g.ZI.map rq=dS/\∀t∈g.ZI,SxD g.ZJ.length t.cond
 names:(g.ZG.map Pr.name).Nodup/\∀p∈g.ZG,∀k,g.ZG.length<=k->k<100->p.name≠bl k
 ZG:∀p∈g.ZG,PrI g.ZJ.length g.ZH.length p
 lvs:dg g [] g.lvs/\∀l∈g.lvs,SxD g.ZJ.length l.cond
 fils:∀x∈g.fils,ce g x/\SxD g.ZJ.length x.cond/\x.ZI.length<=2
theorem MG.tok {g:Gr} (h:MG g) {i:Nat} (hi:i<9):∃t,g.ZI[i]? =ZO t/\t.cls=0:=by
 have hl:g.ZI.length=11:=by have:=congrArg List.length h.ZI.1;rw [XW] at this;exact this
 have hx:=N6 (show i<g.ZI.length by omega);refine ⟨_,hx,?_⟩;have h1:=congrArg (λl=>l[i]?) h.ZI.1;simp only [X2,hx,YD] at h1;have h2:∀j:Fin 9,∀t,dS[j.1]? =ZO t->t.cls=0:=by
  intro j t ht;have:∀j:Fin 9,(dS[j.1]?).map Tk.cls=ZO 0:=by decide
  have:=this j;rw [ht] at this;exact Yh this
 exact h2 ⟨i,hi⟩ (rq _) h1.symm
theorem MG.sym {g:Gr} (h:MG g) {s:Sy} (h1:0<=s.i/\(s.t=ZT->s.i<9)/\(s.t=ZQ->s.i<g.ZH.length)):kB g s:=by refine ⟨h1.1,h1.2.2,λht=>h.tok (by have:=h1.2.1 ht;omega)⟩
theorem yg {g:Gr}:∀(l:List Pr) (done:List ο),(∀p∈l,fa g p/\p.name≠emp/\iI p.cond g.ZJ.length/\-1<=p.rank/\p.rank<=1/\nL p)->(done++l.map Pr.name).Nodup->cP g done l=0
 |[],_,_,_=>rfl
 |p::l,done,h,hn=>by
  obtain ⟨h1,h2,h3,h4,h5,h6⟩:=h p (by simp);have hnd:p.name ∉ done:=λhm=>by rw [Yf,Ye] at hn;exact hn.2.2 _ hm _ (by simp) rfl
  unfold cP;rw [Υ (μ h1),Υ (μ ⟨h2,hnd,h3,h4,h5,h6⟩)];refine yg l _ (λq hq=>h q (by simp [hq])) ?_;rw [Yk];exact hn
theorem OP {n:Nat} (hn:n<=3):(∀s∈abc.take n,nJ s)/\bA (abc.take n)/\(abc.take n).length<=3:=by
 have h:n=0\/n=1\/n=2\/n=3:=by omega
 have ok:∀s∈abc,nJ s:=by
  intro s hs;unfold nJ;rcases XP.1 hs with rfl|hs
  ·decide+kernel
  rcases XP.1 hs with rfl|hs
  ·decide+kernel
  rcases XP.1 hs with rfl|hs
  ·decide+kernel
  cases hs
 refine ⟨λs hs=>ok s (Zd hs),?_,by rw [XX];omega⟩;unfold bA;rcases h with rfl|rfl|rfl|rfl<;>decide
theorem MG.ok {g:Gr} {a b:Nat} (h:MG g) (hb:Bd g a b) (ha:a<=2000) (hb':b<=2000):OkG g:=by
 obtain ⟨n,hn,hc⟩:=h.cs;have hcl:=hb.c;have hpl:=hb.p;have hnl:=hb.n;have htl:=hb.t;have hll:=hb.l;have hfl:=hb.f;obtain ⟨t,ht,ht0,hf⟩:=h.fam;obtain ⟨o1,o2,o3⟩:=OP hn;refine ⟨?_,⟨by rw [hc];exact o1,by rw [hc];exact o2,by rw [hf];exact ht.fit (by omega),λe=>ht0 (Gq (by rw [<- hf];exact e))⟩,?_,⟨h.ZH.1,by rw [h.start];exact Zv 0,by rw [h.start];have:=hb.n0;omega⟩,?_,h.lvs.1,λx hx=>(h.fils x hx).1⟩
 ·unfold bN;rw [Bool.or_eq_false_iff];refine ⟨ι (by omega),?_⟩;rw [List.any_eq_false];intro p hp;have h1:=(h.ZG p hp).rl;have h2:=(h.ZG p hp).lay;rw [δ];omega
 ·refine yf _ _ ?_ λt ht=>(h.ZI.2 t ht).fit (by omega);rw [h.ZI.1];exact Gt
 ·refine yg _ _ (λp hp=> ?_) (by rw [Yu];exact h.names.1);have hI:=h.ZG p hp;exact ⟨⟨h.sym ⟨hI.left.1,λh=>(by cases h),λ_=>hI.left.2⟩,λs hs=>h.sym (hI.right s hs)⟩,hI.nm.1,hI.cond.fit (by omega),hI.rank.1,hI.rank.2,hI.det⟩
theorem MG.sz {g:Gr} {a b:Nat} (h:MG g) (hb:Bd g a b):Sz g:=by
 refine ⟨λs hs=> ?_,λt ht=> ?_,λl hl=> ?_,λf hf=> ?_⟩
 ·obtain ⟨n,hn,hc⟩:=h.cs;rw [hc] at hs;have:∀s∈abc,s.size<=1000000000:=by decide
  exact this s (Zd hs)
 ·have:rq t∈dS:=by rw [<- h.ZI.1];exact ZC ht
  have h2:∀u∈dS.map Tk.smp,u.size<=100000:=by decide
  exact h2 _ (X1.2 ⟨_,this,rfl⟩)
 ·have:=hb.lp l hl;omega
 ·have:=(h.fils f hf).2.2;omega
theorem eB {g g':Gr} (hc:g'.ZJ.length=g.ZJ.length) (hp:g.ZG.length<=g'.ZG.length):∀(l:List Lv) (done:Φ),dg g done l->dg g' done l
 |[],_,_=>trivial
 |x::l,done,⟨⟨h1,h2,h3,h4,h5⟩,h⟩=>⟨⟨h1,h2,by rw [hc];exact h3,λp hp'=>⟨(h4 p hp').1,by have:=(h4 p hp').2;omega⟩,h5⟩,eB hc hp l _ h⟩
theorem rt {g:Gr} {ps:List Pr} {x:Fi} (h:ce g x):ce {g with ZG:=g.ZG++ps} x:=by
 refine ⟨h.1,?_⟩;rcases h.2 with ⟨k,⟨a,b,c,p,q,hp,hq,hr⟩,r⟩|h|h
 ·exact .inl ⟨k,⟨a,b,c,p,q,by rw [X0 (XN.1 hp).1];exact hp,by rw [X0 (XN.1 hq).1];exact hq,hr⟩,r⟩
 ·exact .inr (.inl h)
 ·exact .inr (.inr h)
theorem vS {i k:Nat} (hi:i<100) (hk:k<100) (h:bl i=bl k):i=k:=by
 have h1:(#[112,UInt8.ofNat (97+i)]:Array UInt8)= #[112,UInt8.ofNat (97+k)]:=congrArg ByteArray.data h;have h2:=congrArg (λa=>a[1]?) h1;have h3:UInt8.ofNat (97+i)=UInt8.ofNat (97+k):=by simpa using h2
 have h4:=congrArg UInt8.toNat h3;simp at h4;omega
theorem MG.line {g:Gr} (h:MG g) {p:Pr} (hn:p.name=bl g.ZG.length) (hp:PrI g.ZJ.length g.ZH.length p) (hl:g.ZG.length<100):MG {g with ZG:=g.ZG++[p]}:=by
 refine ⟨h.cs,h.fam,h.ZH,h.start,h.ZI,⟨?_,λq hq k hk hk2=> ?_⟩,λq hq=> ?_,⟨eB (g:=g) (g':={g with ZG:=g.ZG++[p]}) rfl (by show _<=(g.ZG++[p]).length;rw [XT];omega) _ _ h.lvs.1,h.lvs.2⟩,λx hx=>⟨rt (h.fils x hx).1,(h.fils x hx).2⟩⟩
 ·show ((g.ZG++[p]).map Pr.name).Nodup;rw [Yd,Ye];refine ⟨h.names.1,by simp,λx hx y hy=> ?_⟩;rw [Yf,List.map_nil,XO] at hy;obtain ⟨q,hq,rfl⟩:=X1.1 hx;rw [hy,hn];exact h.names.2 q hq _ (XS _) hl
 ·replace hk:(g.ZG++[p]).length<=k:=hk;rw [XT,X3] at hk;rcases XR.1 hq with hq|hq
  ·exact h.names.2 q hq k (by omega) hk2
  ·rw [XO.1 hq,hn];intro e;have:=vS hl hk2 e;omega
 ·rcases XR.1 hq with hq|hq
  ·exact h.ZG q hq
  ·rw [XO.1 hq];exact hp
theorem jA (r:List Sy) (lo hi:Int):cW r 0 0 lo hi:=.inl ⟨rfl,rfl⟩
theorem Gu {g:Gr} (x:Ln) (hc:g.ZJ.length<=3) (hn:g.ZH.length≠0):PrI g.ZJ.length g.ZH.length (jv g x):=by
 have hlen:(aO g.ZH.length x).length<=4:=by unfold aO;rw [XW,XX];omega
 refine ⟨⟨_,jW (by omega),rfl⟩,⟨by show (0:Int)<=((x.left % g.ZH.length:Nat):Int);omega,?_⟩,by show (aO _ _).length<=5;omega,λs hs=> ?_,⟨by show (-1:Int)<=0;decide,by show (0:Int)<=1;decide⟩,by show 0<=2;decide,⟨λy hy=>(by cases hy),jA _ _ _,jA _ _ _,λh=>(by cases h)⟩,?_,?_⟩
 ·show ((x.left % g.ZH.length:Nat):Int)<_;have:=YT x.left (Zo hn);omega
 ·obtain ⟨b,hb,rfl⟩:=X1.1 (show s∈(x.right.take 4).map (lM g.ZH.length) from hs);unfold lM;split
  ·exact ⟨by show (0:Int)<=((b % 14:Nat):Int);omega,λ_=>by show ((b % 14:Nat):Int)<9;omega,λh=>(by cases h)⟩
  ·refine ⟨by show (0:Int)<=(((b % 14 - 9) % g.ZH.length:Nat):Int);omega,λh=>(by cases h),λ_=> ?_⟩;show (((b % 14 - 9) % g.ZH.length:Nat):Int)<_;have:=YT (b % 14 - 9) (Zo hn);omega
 ·intro e;have h2:(2:Nat)=0:=congrArg ByteArray.size (show bl g.ZG.length=emp from e);cases h2
 ·show (bl g.ZG.length).size<=13;show 2<=13;decide
theorem Kb {n nn:Nat} {p:Pr} (h:PrI n nn p) (_:p.rank=0) (_:p.lay=[]) (h3:p.sco=rD) (h4:p.brk=ZQ) (m:Nat):PrI n nn (cG p m):=by
 obtain ⟨a1,a2,a3,a4,a5,a6,a7,a8⟩:=h;have e1:∀r,cW r rD.d rD.k 1 7:=λr=>jA r _ _;have e2:∀r,cW r rD.u rD.a 0 255:=λr=>jA r _ _;have hl:∀{q:Pr},q.lay=[]->∀x∈q.lay,lP q.right x:=λe x hx=>by rw [e] at hx;cases hx
 unfold cG;split
 ·exact ⟨a1,a2,a3,a4,a5,a6,a7,a8⟩
 rename_i hn0;split
 ·exact ⟨a1,a2,a3,a4,⟨by show (-1:Int)<=1;decide,by show (1:Int)<=1;decide⟩,a6,⟨a7.1,a7.2.1,a7.2.2.1,λh=>by rw [show (p.brk=ZT)=(ZQ=ZT) by rw [h4]] at h;cases h⟩,a8⟩
 split
 ·exact ⟨a1,a2,a3,a4,⟨by show (-1:Int)<=-1;decide,by show (-1:Int)<=1;decide⟩,a6,⟨a7.1,a7.2.1,a7.2.2.1,λh=>by rw [show (p.brk=ZT)=(ZQ=ZT) by rw [h4]] at h;cases h⟩,a8⟩
 split
 ·refine ⟨a1,a2,a3,a4,a5,a6,⟨a7.1,a7.2.1,a7.2.2.1,λh=> ?_⟩,a8⟩;have:yl p:=by have:rg p=ZT:=h;unfold rg at this;simpa using this
  exact this
 have hp:0<p.right.length:=Zo hn0;split
 ·have hm:=YT (m / 8 / 4) hp;refine ⟨a1,a2,a3,a4,a5,by show 1<=2;decide,⟨λx hx=> ?_,a7.2.1,a7.2.2.1,λh=>by rw [show (p.brk=ZT)=(ZQ=ZT) by rw [h4]] at h;cases h⟩,a8⟩;rw [XO.1 hx];refine ⟨by show (1:Int)<=((1+m / 8 % 4:Nat):Int);omega,by show ((1+m / 8 % 4:Nat):Int)<=4;omega,by show (0:Int)<=((m / 8 / 4 % p.right.length:Nat):Int);omega,by show ((m / 8 / 4 % p.right.length:Nat):Int)<p.right.length;omega,?_,?_,λh=> ?_⟩
  ·show (0:Int)<=if m / 8 % 4=0 then 0 else ((p.right.length - 1:Nat):Int)
   split<;>omega
  ·show (if m / 8 % 4=0 then (0:Int) else ((p.right.length - 1:Nat):Int))<p.right.length;split<;>omega
  ·have h:((1+m / 8 % 4:Nat):Int)=1:=h;show (if m / 8 % 4=0 then (0:Int) else ((p.right.length - 1:Nat):Int))=0;rw [Χ (by omega)]
 split
 ·exact ⟨a1,a2,a3,a4,a5,a6,⟨a7.1,by show cW p.right p.sco.d p.sco.k 1 7;rw [h3];exact e1 _,by show cW p.right p.sco.u p.sco.a 0 255;rw [h3];exact e2 _,λh=>by rw [show (p.brk=ZT)=(ZQ=ZT) by rw [h4]] at h;cases h⟩,a8⟩
 have hlt:=YT (m / 8) hp;have ex:(p.right.getD (m / 8 % p.right.length) ⟨ZQ,0⟩).t=ZT->∃s,p.right[(((m / 8 % p.right.length+1:Nat):Int) - 1).toNat]? =ZO s/\s.t=ZT:=λht=>by rw [show (((m / 8 % p.right.length+1:Nat):Int) - 1).toNat=m / 8 % p.right.length by omega];refine ⟨_,N6 hlt,?_⟩;rw [Yg,N6 hlt] at ht;exact ht
 split
 ·split
  ·rename_i ht;exact ⟨a1,a2,a3,a4,a5,a6,⟨a7.1,.inr ⟨by show (0:Int)<((m / 8 % p.right.length+1:Nat):Int);omega,by show ((m / 8 % p.right.length+1:Nat):Int)<=p.right.length;omega,ex ht,by show (1:Int)<=((1+m / 8 % 2:Nat):Int);omega,by show ((1+m / 8 % 2:Nat):Int)<=7;omega⟩,jA _ _ _,λh=>by rw [show (p.brk=ZT)=(ZQ=ZT) by rw [h4]] at h;cases h⟩,a8⟩
  ·exact ⟨a1,a2,a3,a4,a5,a6,a7,a8⟩
 split
 ·split
  ·rename_i ht;exact ⟨a1,a2,a3,a4,a5,a6,⟨a7.1,jA _ _ _,.inr ⟨by show (0:Int)<((m / 8 % p.right.length+1:Nat):Int);omega,by show ((m / 8 % p.right.length+1:Nat):Int)<=p.right.length;omega,ex ht,by show (0:Int)<=((1+m / 8 % 7:Nat):Int);omega,by show ((1+m / 8 % 7:Nat):Int)<=255;omega⟩,λh=>by rw [show (p.brk=ZT)=(ZQ=ZT) by rw [h4]] at h;cases h⟩,a8⟩
  ·exact ⟨a1,a2,a3,a4,a5,a6,a7,a8⟩
 ·exact ⟨a1,a2,a3,a4,a5,a6,a7,a8⟩
theorem ru (p:Pr) (m:Nat):(cG p m).name=p.name:=by
 unfold cG
 repeat' split
 all_goals rfl
theorem MG.lineG {g:Gr} (h:MG g) {a b:Nat} (hb:Bd g a b) (ha:a<100) (x:Ln) (kn:Bool):MG (lineG g x kn):=by
 have hp:=hb.p;unfold Go.Proofs.YtcemhghkipgdiaaGreatDoor.lineG;split
 ·exact h
 ·exact h.line (by rw [ru];rfl) (Kb (Gu x hb.c hb.n0) rfl rfl rfl rfl _) (by omega)
theorem rz {g:Gr} {y:Lv}:∀(l:List Lv) (done:Φ),dg g done l->Kh g (done++l.flatMap Lv.ps) y->dg g done (l++[y])
 |[],done,_,h=>by simp only [List.flatMap_nil,Ys] at h;exact ⟨h,trivial⟩
 |x::l,done,⟨h1,h2⟩,h=>⟨h1,rz l _ h2 (by rw [Yk];exact h)⟩
theorem MG.fil {g:Gr} (h:MG g) {y:Fi} (hd:SxD g.ZJ.length y.cond) (ht:y.ZI.length<=2):MG (kA g y):=by
 unfold kA;split
 ·rename_i hy;refine ⟨h.cs,h.fam,h.ZH,h.start,h.ZI,h.names,h.ZG,⟨eB (g:=g) (by rfl) (by exact XS _) _ _ h.lvs.1,h.lvs.2⟩,λx hx=> ?_⟩;rcases XR.1 hx with hx|hx
  ·exact h.fils x hx
  ·rw [XO.1 hx];exact ⟨hy,hd,ht⟩
 ·exact h
theorem MG.lvl {g:Gr} (h:MG g) {a b:Nat} (hb:Bd g a b) (x:Ru):MG (nH g x):=by
 have hp0:0<g.ZG.length:=Zo hb.p0;have hd:SxD g.ZJ.length (ruD g x):=⟨_,jW (by have:=hb.c;omega),rfl⟩;have ha:=YT x.a hp0;have hbb:=YT x.b hp0;unfold nH;split
 ·exact h
 ·rename_i hna;refine ⟨h.cs,h.fam,h.ZH,h.start,h.ZI,h.names,h.ZG,⟨eB (g:=g) (by rfl) (by exact XS _) _ _ (rz _ _ h.lvs.1 ?_),λy hy=> ?_⟩,h.fils⟩
  ·rw [Yu];refine ⟨by show (0:Int)<=((x.c % 4:Nat):Int);omega,by show ((x.c % 4:Nat):Int)<=3;omega,hd.fit (by have:=hb.c;omega),λp hp=> ?_,?_,λp hp=> ?_⟩
   ·rcases XP.1 hp with rfl|hp
    ·omega
    ·split at hp
     ·rw [XO.1 hp];omega
     ·cases hp
   ·show (_::_).Nodup;rw [YL];split
    ·rename_i hq;refine ⟨?_,by simp⟩;rw [XO];omega
    ·exact ⟨by simp,.nil⟩
   ·rcases XP.1 hp with rfl|hp
    ·exact hna
    ·split at hp
     ·rename_i hq;rw [XO.1 hp];exact hq.2
     ·cases hp
  ·rcases XR.1 hy with hy|hy
   ·exact h.lvs.2 y hy
   ·rw [XO.1 hy];exact hd
theorem Ez {g g':Gr} (h1:g'.ZJ=g.ZJ) (h2:g'.ZG=g.ZG) (h3:g'.ZH=g.ZH) (ht:∀(i:Nat) (t:Tk),g.ZI[i]? =ZO t->∃t':Tk,g'.ZI[i]? =ZO t'/\t'.cls=t.cls/\t'.lit=t.lit) {x:Fi} (h:ce g x):ce g' x:=by
 unfold ce at h ⊢;unfold oK at h ⊢;rw [h1,h2,h3];refine ⟨h.1,?_⟩;rcases h.2 with h|⟨k,⟨a,b,c1,c2,c3⟩,r⟩|⟨k,⟨⟨c1,c2,c3⟩,a,t,t1,t2,t3⟩,r⟩
 ·exact .inl h
 ·refine .inr (.inl ⟨k,⟨a,b,c1,λn hn=> ?_,c3⟩,r⟩);obtain ⟨n0,t,t1,t2⟩:=c2 n hn;obtain ⟨t',u1,u2,u3⟩:=ht _ _ t1;exact ⟨n0,t',u1,by show decide (t'.cls=0)=ZT;rw [u2];exact t2⟩
 ·obtain ⟨t',u1,u2,u3⟩:=ht _ _ t1;refine .inr (.inr ⟨k,⟨⟨c1,λn hn=> ?_,c3⟩,a,t',u1,by rw [u2];exact t2,by rw [u3];exact t3⟩,r⟩);obtain ⟨n0,t,t1,t2⟩:=c2 n hn;obtain ⟨t',u1,u2,u3⟩:=ht _ _ t1;exact ⟨n0,t',u1,by show (!decide (t'.lit=emp))=ZT;rw [u3];exact t2⟩
theorem MG.tokG {g:Gr} (h:MG g) {a b:Nat} (hb:Bd g a b) (x:Ru):MG (tokG g x):=by
 have hd:SxD g.ZJ.length (ruD g x):=⟨_,jW (by have:=hb.c;omega),rfl⟩;unfold Go.Proofs.YtcemhghkipgdiaaGreatDoor.tokG;refine ⟨h.cs,h.fam,h.ZH,h.start,⟨?_,λt ht=> ?_⟩,h.names,h.ZG,⟨eB (g:=g) (by rfl) (by exact XS _) _ _ h.lvs.1,h.lvs.2⟩,λy hy=>⟨Ez (g:=g) (by rfl) (by rfl) (by rfl) (λi t ht=> ?_) (h.fils y hy).1,(h.fils y hy).2⟩⟩
 ·rw [<- h.ZI.1];apply Yx;intro i;simp only [X2,Zc];cases g.ZI[i]? with
  |none=>rfl
  |some t=>simp only [YD];split<;>rfl
 ·obtain ⟨i,hi⟩:=List.mem_iff_getElem?.1 ht;rw [Zc] at hi;cases ht':g.ZI[i]? with
  |none=>rw [ht'] at hi;simp at hi
  |some u=>
   rw [ht'] at hi;simp only [Option.map_eq_map,YD,Option.some.injEq] at hi;subst hi;split
   ·exact hd
   ·exact h.ZI.2 u (XQ ht')
 ·show ∃t',(g.ZI.modify (x.a % 9) _)[i]? =ZO t'/\_;rw [Zc,ht];refine ⟨_,rfl,?_⟩;simp only [];split<;>exact ⟨rfl,rfl⟩
theorem MG.ruleG {g:Gr} (h:MG g) {a b:Nat} (hb:Bd g a b) (x:Ru):MG (ruleG g x):=by
 have hd:SxD g.ZJ.length (ruD g x):=⟨_,jW (by have:=hb.c;omega),rfl⟩;unfold Go.Proofs.YtcemhghkipgdiaaGreatDoor.ruleG;split
 ·exact h.lvl hb x
 split
 ·exact h.fil hd (by show 0<=2;decide)
 split
 ·exact h.fil hd (by show 1<=2;decide)
 split
 ·exact h.fil hd (by show 1<=2;decide)
 ·exact h.tokG hb x
theorem MG.lines {x:Rw}:∀(l:List Ln) {g:Gr} {a b:Nat},MG g->Bd g a b->a+l.length<100->MG (dU x l g)
 |[],g,a,b,h,_,_=>h
 |y::l,g,a,b,h,hb,hl=>by rw [X4] at hl;exact MG.lines (x:=x) l (h.lineG hb (by omega) y (bO x)) (B5 hb y (bO x)) (by omega)
theorem MG.rules:∀(l:List Ru) {g:Gr} {a b:Nat},MG g->Bd g a b->MG (eA l g)
 |[],g,a,b,h,_=>h
 |y::l,g,a,b,h,hb=>MG.rules l (h.ruleG hb y) (B6 hb y)
theorem MG.famG {g:Gr} (h:MG g) {a b:Nat} (hb:Bd g a b) (x:Rw):MG (famG x g):=by
 unfold Go.Proofs.YtcemhghkipgdiaaGreatDoor.famG;split
 ·rename_i hc;refine ⟨h.cs,⟨ya x g.ZJ.length,vP (n:=g.ZJ.length) _ (by have:=hb.c;omega) g.ZJ.length 0 0 (by omega),λe=>hc.2 (by rw [e];rfl),rfl⟩,h.ZH,h.start,h.ZI,h.names,h.ZG,⟨eB (g:=g) (by rfl) (by exact XS _) _ _ h.lvs.1,h.lvs.2⟩,h.fils⟩
 ·exact h
instance decSy (q:Option Sy):Decidable (∃s,q=ZO s/\s.t=ZT):=
 match q with
 |none=>isFalse λ⟨_,h,_⟩=>by cases h
 |some s=>if h:s.t=ZT then isTrue ⟨s,rfl,h⟩ else isFalse λ⟨_,h1,h2⟩=>by cases h1;exact h h2
instance decEntry (r:List Sy) (k v lo hi:Int):Decidable (cW r k v lo hi):=by unfold cW;infer_instance
instance decLay (r:List Sy) (x:Cn):Decidable (lP r x):=by unfold lP;infer_instance
instance decBrk (p:Pr):Decidable (yl p):=by unfold yl;infer_instance
instance decDet (p:Pr):Decidable (nL p):=by unfold nL;infer_instance
def OQ (nn:Nat) (p:Pr):Prop:=(0<=p.left/\p.left<nn)/\p.right.length<=5/\(∀s∈p.right,0<=s.i/\(s.t=ZT->s.i<9)/\(s.t=ZQ->s.i<nn))/\(-1<=p.rank/\p.rank<=1)/\p.lay.length<=2/\nL p/\(p.name≠emp/\p.name.size<=13)
instance decPri (nn:Nat) (p:Pr):Decidable (OQ nn p):=by unfold OQ;infer_instance
theorem bj {n nn:Nat} {p:Pr} (h:OQ nn p) (hc:SxD n p.cond):PrI n nn p:=by obtain ⟨h1,h2,h3,h4,h5,h6,h7⟩:=h;exact ⟨hc,h1,h2,h3,h4,h5,h6,h7⟩
theorem eC {n v:Nat} (hv:v<n) (hn:n<=6):SxD n (dia (tv v)):=⟨_,Sx.tv hv hn,rfl⟩
theorem pE {n v:Nat} (hv:v<n) (hn:n<=6):SxD n (dv v):=⟨_,(Sx.tv hv hn).ap2 (Sx.ZL n ZT),rfl⟩
def Gv (s:ο):Prop:=s.size≠2\/s.data[0]?≠ZO 112
instance (s:ο):Decidable (Gv s):=by unfold Gv;infer_instance
theorem Kc {s:ο} (h:Gv s) (k:Nat):s≠bl k:=by
 intro e;rcases h with h|h
 ·exact h (by rw [e];rfl)
 ·exact h (by rw [e];rfl)
theorem oJ {g:Gr} {n:Nat} (hn:n<=3) (hc:g.ZJ=abc.take n) (hf:g.fam=aM) (ht:g.ZI=dS) (hs:g.start=0) (h1:bA g.ZH) (h2:∀s∈g.ZH,s.size<=10) (h3:(g.ZG.map Pr.name).Nodup) (h4:∀s∈g.ZG.map Pr.name,Gv s)
  (h5:∀p∈g.ZG,PrI g.ZJ.length g.ZH.length p) (h6:dg g [] g.lvs/\∀l∈g.lvs,SxD g.ZJ.length l.cond) (h7:∀x∈g.fils,ce g x/\SxD g.ZJ.length x.cond/\x.ZI.length<=2):MG g:=by
 have e:dS.map rq=dS:=rfl;refine ⟨⟨n,hn,hc⟩,⟨_,Sx.ZL _ ZT,by simp,hf⟩,⟨h1,h2⟩,hs,⟨by rw [ht];exact e,λt htm=> ?_⟩,⟨h3,λp hp k _ _=>Kc (h4 _ (ZC hp)) k⟩,h5,h6,h7⟩;rw [ht,<- e] at htm;obtain ⟨u,_,rfl⟩:=X1.1 htm;exact aU _
theorem Ke {g:Gr} (ht:g.ZI=dS) (i:Nat) {kd:Tk->Bool} {t:Tk} (h:dS[i]? =ZO t) (hk:kd t=ZT):0<=(i:Int)/\∃t,g.ZI[(i:Int).toNat]? =ZO t/\kd t=ZT:=⟨by omega,t,by rw [ht,N5];exact h,hk⟩
theorem Rc {g:Gr} {kd:Tk->Bool} {i:Int} (h:0<=i/\∃t,g.ZI[i.toNat]? =ZO t/\kd t=ZT):gi g kd [i]:=by refine ⟨by simp,λn hn=>by rw [XO.1 hn];exact h,λj x y _ hy=> ?_⟩;simp at hy
theorem Wl {g:Gr} {kd:Tk->Bool} {i j:Int} (h:0<=i/\∃t,g.ZI[i.toNat]? =ZO t/\kd t=ZT) (h':0<=j/\∃t,g.ZI[j.toNat]? =ZO t/\kd t=ZT) (hij:i<j):gi g kd [i,j]:=by
 refine ⟨by simp,λn hn=> ?_,λk x y hx hy=> ?_⟩
 ·rcases XP.1 hn with rfl|hn
  ·exact h
  ·rw [XO.1 hn];exact h'
 ·match k with
  |0=>simp at hx hy;subst hx hy;exact hij
  |k+1=>simp at hy
theorem rA:MG cI:=by
 refine oJ (n:=2) (by decide) rfl rfl rfl rfl (by unfold bA;decide) (by decide) (by decide) (by decide) (λp hp=> ?_) ⟨?_,?_⟩ ?_
 ·rcases XP.1 hp with rfl|hp
  ·exact bj (by decide) (aU _)
  rcases XP.1 hp with rfl|hp
  ·exact bj (by decide) (aU _)
  rcases XP.1 hp with rfl|hp
  ·exact bj (by decide) (aU _)
  rcases XP.1 hp with rfl|hp
  ·exact bj (by decide) (aU _)
  rcases XP.1 hp with rfl|hp
  ·exact bj (by decide) (eC (by decide) (by decide))
  cases hp
 ·refine ⟨⟨by decide,by decide,(aU 2).fit (by decide),by decide,by decide,by decide⟩,⟨by decide,by decide,(aU 2).fit (by decide),by decide,by decide,by decide⟩,⟨by decide,by decide,(pE (n:=2) (v:=0) (by decide) (by decide)).fit (by decide),by decide,by decide,by decide⟩,trivial⟩
 ·intro l hl;rcases XP.1 hl with rfl|hl
  ·exact aU _
  rcases XP.1 hl with rfl|hl
  ·exact aU _
  rcases XP.1 hl with rfl|hl
  ·exact pE (by decide) (by decide)
  cases hl
 ·intro x hx;cases hx
theorem tT:MG co:=by
 refine oJ (n:=2) (by decide) rfl rfl rfl rfl (by unfold bA;decide) (by decide) (by decide) (by decide) (λp hp=> ?_) ⟨?_,?_⟩ ?_
 ·rcases XP.1 hp with rfl|hp
  ·exact bj (by decide) (aU _)
  rcases XP.1 hp with rfl|hp
  ·exact bj (by decide) (aU _)
  rcases XP.1 hp with rfl|hp
  ·exact bj (by decide) (aU _)
  rcases XP.1 hp with rfl|hp
  ·exact bj (by decide) (aU _)
  rcases XP.1 hp with rfl|hp
  ·exact bj (by decide) (aU _)
  cases hp
 ·trivial
 ·intro l hl;cases hl
 ·intro x hx;rcases XP.1 hx with rfl|hx
  ·exact ⟨⟨(eC (n:=2) (v:=0) (by decide) (by decide)).fit (by decide),.inl ⟨.inr rfl,⟨by decide,by decide,by decide,_,_,rfl,rfl,rfl⟩,rfl,rfl,rfl⟩⟩,eC (by decide) (by decide),by decide⟩
  rcases XP.1 hx with rfl|hx
  ·exact ⟨⟨(eC (n:=2) (v:=1) (by decide) (by decide)).fit (by decide),.inr (.inr ⟨rfl,⟨Wl (Ke rfl 5 rfl (by decide)) (Ke rfl 6 rfl (by decide)) (by decide),by decide,_,rfl,rfl,rfl⟩,rfl,rfl,rfl,rfl⟩)⟩,eC (by decide) (by decide),by decide⟩
  cases hx
theorem pe:MG dq:=by
 refine oJ (n:=2) (by decide) rfl rfl rfl rfl (by unfold bA;decide) (by decide) (by decide) (by decide) (λp hp=> ?_) ⟨?_,?_⟩ ?_
 ·rcases XP.1 hp with rfl|hp
  ·exact bj (by decide) (aU _)
  rcases XP.1 hp with rfl|hp
  ·exact bj (by decide) (aU _)
  rcases XP.1 hp with rfl|hp
  ·exact bj (by decide) (aU _)
  rcases XP.1 hp with rfl|hp
  ·exact bj (by decide) (aU _)
  rcases XP.1 hp with rfl|hp
  ·exact bj (by decide) (aU _)
  rcases XP.1 hp with rfl|hp
  ·exact bj (by decide) (aU _)
  rcases XP.1 hp with rfl|hp
  ·exact bj (by decide) (eC (by decide) (by decide))
  cases hp
 ·trivial
 ·intro l hl;cases hl
 ·intro x hx;cases hx
theorem EA:MG jR:=by
 refine oJ (n:=2) (by decide) rfl rfl rfl rfl (by unfold bA;decide) (by decide) (by decide) (by decide) (λp hp=> ?_) ⟨?_,?_⟩ ?_
 ·rcases XP.1 hp with rfl|hp
  ·exact bj (by decide) (aU _)
  rcases XP.1 hp with rfl|hp
  ·exact bj (by decide) (aU _)
  rcases XP.1 hp with rfl|hp
  ·exact bj (by decide) (aU _)
  rcases XP.1 hp with rfl|hp
  ·exact bj (by decide) (aU _)
  rcases XP.1 hp with rfl|hp
  ·exact bj (by decide) (eC (by decide) (by decide))
  cases hp
 ·trivial
 ·intro l hl;cases hl
 ·intro x hx;cases hx
theorem z8:MG gY:=by
 refine oJ (n:=2) (by decide) rfl rfl rfl rfl (by unfold bA;decide) (by decide) (by decide) (by decide) (λp hp=> ?_) ⟨?_,?_⟩ ?_
 ·rcases XP.1 hp with rfl|hp
  ·exact bj (by decide) (aU _)
  rcases XP.1 hp with rfl|hp
  ·exact bj (by decide) (aU _)
  rcases XP.1 hp with rfl|hp
  ·exact bj (by decide) (aU _)
  rcases XP.1 hp with rfl|hp
  ·exact bj (by decide) (aU _)
  rcases XP.1 hp with rfl|hp
  ·exact bj (by decide) (aU _)
  rcases XP.1 hp with rfl|hp
  ·exact bj (by decide) (eC (by decide) (by decide))
  cases hp
 ·trivial
 ·intro l hl;cases hl
 ·intro x hx;rcases XP.1 hx with rfl|hx
  ·exact ⟨⟨(eC (n:=2) (v:=0) (by decide) (by decide)).fit (by decide),.inr (.inl ⟨.inl rfl,⟨by decide,by decide,Rc (Ke rfl 0 rfl (by decide))⟩,rfl,rfl,rfl,rfl⟩)⟩,eC (by decide) (by decide),by decide⟩
  rcases XP.1 hx with rfl|hx
  ·exact ⟨⟨(pE (n:=2) (v:=1) (by decide) (by decide)).fit (by decide),.inr (.inl ⟨.inr rfl,⟨by decide,by decide,Rc (Ke rfl 1 rfl (by decide))⟩,rfl,rfl,rfl,rfl⟩)⟩,pE (by decide) (by decide),by decide⟩
  cases hx
theorem z9:MG gZ:=by
 refine oJ (n:=2) (by decide) rfl rfl rfl rfl (by unfold bA;decide) (by decide) (by decide) (by decide) (λp hp=> ?_) ⟨?_,?_⟩ ?_
 ·rcases XP.1 hp with rfl|hp
  ·exact bj (by decide) (aU _)
  rcases XP.1 hp with rfl|hp
  ·exact bj (by decide) (aU _)
  rcases XP.1 hp with rfl|hp
  ·exact bj (by decide) (aU _)
  rcases XP.1 hp with rfl|hp
  ·exact bj (by decide) (aU _)
  rcases XP.1 hp with rfl|hp
  ·exact bj (by decide) (eC (by decide) (by decide))
  cases hp
 ·trivial
 ·intro l hl;cases hl
 ·intro x hx;cases hx
theorem Gw {k:Nat} (hk:k<6):MG (cq k):=by
 have h:k=0\/k=1\/k=2\/k=3\/k=4\/k=5:=by omega
 rcases h with rfl|rfl|rfl|rfl|rfl|rfl
 ·exact rA
 ·exact tT
 ·exact pe
 ·exact EA
 ·exact z8
 ·exact z9
theorem Gx (x:Rw):MG (dE x):=by
 unfold dE;split
 ·rename_i h;exact Gw (ε h)
 ·have hn:(fN x).length≠0:=by unfold fN;rw [XX];simp
  refine oJ (n:=x.n % 4) (by omega) rfl rfl rfl rfl ?_ (λs hs=> ?_) (by show ([⟨#[102,105,114,115,116]⟩]:List ο).Nodup;simp) (λs hs=>by rw [XO.1 (show s∈([⟨#[102,105,114,115,116]⟩]:List ο) from hs)];decide) (λp hp=> ?_) ⟨trivial,λl hl=>(by cases hl)⟩ λx hx=>by cases hx
  ·have h:x.n / 4 % 3=0\/x.n / 4 % 3=1\/x.n / 4 % 3=2:=by omega
   show bA (fN x);unfold fN;rcases h with h|h|h<;>rw [h]<;>(unfold bA;decide)
  ·have:∀s∈([⟨#[83]⟩,⟨#[80]⟩,⟨#[81]⟩]:List ο),s.size<=10:=by decide
   exact this s (Zd hs)
  ·rw [XO.1 hp];refine bj ⟨⟨by decide,?_⟩,by decide,?_,by decide,by decide,by decide,by decide⟩ (aU _)
   ·show (0:Int)<(fN x).length;omega
   ·intro s hs;rw [XO.1 hs];exact ⟨by decide,λ_=>by decide,λh=>(by cases h)⟩
theorem Cb (x:Rw):MG (dy x)/\Bd (dy x) 18 10:=by
 have hm:cV x<=10:=by unfold cV;split<;>decide
 have b1:=Gp (x:=x) (rj x);have m1:=(Gx x).famG (rj x) x;have b2:=rk (x:=x) (x.lines.take (cV x)) b1;have hl:(x.lines.take (cV x)).length<=10:=by rw [XX];omega
 have hr:(x.rules.take 6).length<=6:=by rw [XX];omega
 have m2:=MG.lines (x:=x) (x.lines.take (cV x)) m1 b1 (by omega);have b3:=rm (x.rules.take 6) b2;have m3:=MG.rules (x.rules.take 6) m2 b2;refine ⟨m3,?_⟩;obtain ⟨c1,c2,c3,c4,c5,c6,c7,c8,c9⟩:=b3;exact ⟨c1,c2,c3,c4,by unfold dy;omega,c6,by unfold dy;omega,c8,by unfold dy;omega⟩
end
