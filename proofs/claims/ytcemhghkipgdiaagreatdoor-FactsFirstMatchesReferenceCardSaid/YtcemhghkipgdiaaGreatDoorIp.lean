/-
  Made grammars as plain data; their sizes.
-/
import Derived.Test.YtcemhghkipgdiaaGreatDoorGkoineref05
open Option renaming some->Y3,none->Y5
open Go.Obj renaming cells->Y4
open Bool renaming false->Y6,true->Y8
open Go.Value renaming agg->Y9,bool->Za,int->Zf,string->Zg
open Go.Addr renaming add->Zb,mk->Zc
open Int renaming toNat->Zd,tmod->Zk
open Array renaming setIfInBounds->Zl
noncomputable section
namespace Go.Proofs.YtcemhghkipgdiaaGreatDoor
open Go.IntKind (i64 u8 u64)
open Sl renaming v->Y7,nil->Zi,mk->Zj
open Go Go.Proofs.Tryz Tr
set_option maxRecDepth 10000
section
variable {F:PH}
theorem iz (i:Int) (F:PH):ν 49 #[vi i] F λr F'=>r=Y9 (Sy.arr ⟨Y6,i⟩)/\F.le F':=by refine VM ?_;unfold QR;refine (St.start F).new λb F1 h=> ?_;refine h.put0 (w':=(Sy.arr ⟨Y6,i⟩)) rfl rfl (by simp [ak]) λF2 h=> ?_;exact ⟨_,rfl,h.whole0,rfl,h.le⟩
theorem kL (i:Int) (F:PH):ν 48 #[vi i] F λr F'=>r=Y9 (Sy.arr ⟨Y8,i⟩)/\F.le F':=by refine VL ?_;unfold QQ;refine (St.start F).new λb F1 h=> ?_;refine h.put0 (w':=(Sy.arr ⟨Y8,i⟩)) rfl rfl (by simp [ak]) λF2 h=> ?_;exact ⟨_,rfl,h.whole0,rfl,h.le⟩
theorem dH (lo hi:Int) (F:PH):ν 162 #[vi lo,vi hi] F λr F'=>r=Y9 (Nd.arr ⟨1,lo,hi,0,0⟩)/\F.le F':=by refine Rf ?_;unfold L4;refine (St.start F).new λb F1 h=> ?_;refine h.put0 (w':=(Nd.arr ⟨1,lo,hi,0,0⟩)) rfl rfl (by simp [ak]) λF2 h=> ?_;exact ⟨_,rfl,h.whole0,rfl,h.le⟩
theorem cg (k x y:Int) (F:PH):ν 163 #[vi k,vi x,vi y] F λr F'=>r=Y9 (Nd.arr ⟨k,0,0,x,y⟩)/\F.le F':=by refine Rg ?_;unfold L5;refine (St.start F).new λb F1 h=> ?_;refine h.put0 (w':=(Nd.arr ⟨k,0,0,x,y⟩)) rfl rfl (by simp [ak]) λF2 h=> ?_;exact ⟨_,rfl,h.whole0,rfl,h.le⟩
theorem DV.out {v:Γ} {d:Dia} (h:DV F v d):∃s,v= #[s.v,vi d.2]/\RL F s d.1:=by obtain ⟨s,h1,h2⟩:=h;exact ⟨s,h1,RL.brs.2 h2⟩
abbrev aK:Dia:=dia (Y0 Y8)
abbrev lj (d:Dia) (r:Value) (F:PH):Prop:=∃w,r=Y9 w/\DV F w d
theorem ga (F:PH):ν 34 #[Za Y8] F λr F'=>lj aK r F'/\F.le F':=
 (bH Y8).mono λ_ _ ⟨w,h1,h2,h3⟩=>⟨⟨w,h1,h2⟩,h3⟩
abbrev bE (nm:ByteArray) (left:Int) (right:List Sy):Pr:=⟨nm,left,right,aK,Y6,0,[],⟨Y6,0,0,0,0⟩⟩
theorem tM (nm:ο) (left:Int) {s:Sl} {right:List Sy} {F:PH} (hs:RL F s right):ν 81 #[Zg nm,vi left,s.v] F λr F'=>(∃w,r=Y9 w/\Mem.rep F' (bE nm left right) w)/\F.le F':=by refine QU ?_;unfold Oc;refine (St.start F).new λb F1 h=> ?_;refine h.run (ga _) λ_ G F2 hr l h=> ?_;obtain ⟨w,rfl,hw⟩:=hr;obtain ⟨n,rfl,hn⟩:=hw.out;refine ⟨_,rfl,rfl,?_⟩;refine h.put0 (w':=(bE nm left right).arr s n Zi) rfl rfl (by simp [ak,Y7]) λF2 h=> ?_;exact ⟨_,rfl,h.whole0,⟨_,rfl,s,n,Zi,rfl,(hs.le l).le h.le,hn.le h.le,.nil _⟩,aa l h.le⟩
theorem aL (v:Nat) (hv:v<=63) (F:PH):ν 85 #[vi v] F λr F'=>lj (dia (tv v)) r F'/\F.le F':=by
 refine VU ?_;unfold QX;refine (St.start F).new λb F1 h=> ?_;refine h.run (nD (v:Int)) λ_ G F2 hr l h=> ?_;obtain ⟨w,rfl,hw⟩:=hr;have e:tu (v:Int)=(dia (tv v),0):=by unfold tu;rw [Υ (by omega)];simp
 rw [e] at hw ⊢;obtain ⟨n,rfl,hn⟩:=hw.out;refine ⟨_,_,rfl,?_⟩;refine h.new λb3 F3 h=> ?_;refine h.put0 (w':= #[n.v,vi (dia (tv v)).2]) rfl rfl (by simp [ak,Y7]) λF2 h=> ?_;refine ⟨_,rfl,h.whole0,?_⟩;refine h.put1 (w':= #[n.v,vi (dia (tv v)).2]) rfl rfl (by simp [ak,Y7]) λF2 h=> ?_;exact ⟨_,rfl,h.whole1,⟨_,rfl,DV.mk (hn.le h.le)⟩,aa l h.le⟩
theorem Fy {n:Nat}:∀{vs:List Γ} {k:Nat} {c:Γ},(∀d∈vs,d.size=n)->vs[k]? =Y3 c->∀{off:Nat} {v:Ξ},off+v.length<=n->
  cat (vs.set k (wr c off v))=(cat vs).take (k*n+off)++v++(cat vs).drop (k*n+off+v.length)
 |[],k,c,_,hk,off,v,_=>by simp at hk
 |d::vs,0,c,hn,hk,off,v,ho=>by simp at hk;subst hk;have hd:d.size=n:=hn d (by simp);rw [List.set_cons_zero,bI,bI,Yf,Xm];have hw:=dM v d.toList off (by rw [Xb (xs:=d)];omega);rw [show d.toList.toArray=d by simp] at hw;have hdl:d.toList.length=d.size:=Xb;rw [hw,Xs (by omega),List.drop_append_of_le_length (by omega)];simp []
 |d::vs,k+1,c,hn,hk,off,v,ho=>by
  have hd:d.toList.length=n:=by rw [Xb];exact hn d (by simp)
  rw [List.set_cons_succ,bI,bI,Fy (λx hx=>hn x (by simp [hx])) (by simpa using hk) ho];have e1:(k+1)*n+off=d.toList.length+(k*n+off):=by rw [hd,Yo];omega
  have e2:(k+1)*n+off+v.length=d.toList.length+(k*n+off+v.length):=by rw [hd,Yo];omega
  rw [e2,e1,List.take_length_add_append,List.drop_length_add_append];simp []
theorem Jq {α:Type} (L v:List α) {o M:Nat} (h:o+v.length<=M) (hM:M<=L.length):(L.take o++v++L.drop (o+v.length)).take M=(L.take M).take o++v++(L.take M).drop (o+v.length):=by
 have t1:(L.take o++v).length=o+v.length:=by rw [Xa,Xe];omega
 rw [List.take_append,t1,Xf (l:=L.take o++v) (by omega),List.take_take,Nat.min_eq_left (by omega),List.drop_take]
theorem St.elAt {G F:PH} {As:List (Ψ)} {s:Sl} {e n k:Nat} {vs:List Γ} {c:Γ} (h:St G F As) (i:Nat) (hi:As[i]? =Y3 (own s e n (cat vs))) (hn:∀d∈vs,d.size=n) (hk:vs[k]? =Y3 c) (h0:0<n):
  ∃b cur,s.YZ=Y3 ⟨b,0,Y5⟩/\k<s.len/\F b=Y3 (Y4 cur e)/\k*n+n<=cur.size/\
   ∀off (v:Ξ),off+v.length<=n->St G (F.set b (Y4 (wr cur (k*n+off) v) e)) (As.set i (own s e n (cat (vs.set k (wr c off v))))):=by
 have hkl:k<vs.length:=(N6.1 hk).1;have hlen:∀(l:List Γ),(∀d∈l,d.size=n)->(cat l).length=l.length*n:=by
  intro l;induction l with
  |nil=>intro _;simp [cat]
  |cons d l ih=>intro hd;rw [bI,Xa,ih (λx hx=>hd x (by simp [hx])),Xb,hd d (by simp),Xl,Yo,Nat.add_comm]
 have hl:=hlen vs hn;obtain ⟨ho,-⟩:=h.ownAt hi;rcases ho with ⟨rfl,hv⟩|⟨b,cur,h1,h2,h3,h4,h5,h6⟩
 ·rw [hv] at hl;have h:=Nat.mul_pos (show 0<vs.length by omega) h0;simp at hl;omega
 ·have e1:s.len=vs.length:=by rw [hl] at h5;exact (Nat.eq_of_mul_eq_mul_right h0 h5).symm
  have hkn:k*n+n<=s.len*n:=by rw [<- Yo];exact Yb _ (by omega)
  have hcs:s.len*n<=cur.size:=by rw [h3];exact Yb _ h4
  refine ⟨b,cur,h1,by omega,h2,by omega,λoff v hv=> ?_⟩;obtain ⟨H,a1,a2,a3,a4⟩:=h.set (A':=own s e n (cat (vs.set k (wr c off v)))) hi;have hHb:H b≠Y5:=by
   rcases a1 with ⟨rfl,_⟩|⟨b',cur',g1,g2,_⟩
   ·cases h1
   ·rw [h1] at g1;cases g1;rw [g2];simp
  have hall:∀d∈vs.set k (wr c off v),d.size=n:=by
   intro d hd;rcases List.mem_or_eq_of_mem_set hd with hd|rfl
   ·exact hn d hd
   ·rw [d7];exact hn c (W7 hk)
  refine a4 (PH.set (λ_=>Y5) b (Y4 (wr cur (k*n+off) v) e)) _ (.inr ⟨b,_,h1,al _ _ _,by rw [d7,h3],h4,?_,?_⟩) (λx hx=> ?_) (λx p hx=> ?_) (λx p hx hx'=> ?_)
  ·rw [hlen _ hall,YH,e1]
  ·have hw:=dM v cur.toList (k*n+off) (by rw [Xb (xs:=cur)];omega);rw [show cur.toList.toArray=cur by simp] at hw;rw [hw,Fy hn hk hv,<- h6];exact Jq _ _ (by omega) (by rw [Xb (xs:=cur)];omega)
  ·by_cases ex:x=b
   ·rw [ex];exact .inl hHb
   ·rw [az _ _ ex] at hx;exact absurd rfl hx
  ·by_cases ex:x=b
   ·rw [ex,al] at hx ⊢;exact hx
   ·rw [az _ _ ex] at hx;cases hx
  ·have ex:x≠b:=λex=>by subst ex;exact hHb hx'
   rw [az _ _ ex];exact hx
theorem St.elN {G F:PH} {As:List (Ψ)} {s:Sl} {e n k:Nat} {vs:List Γ} {c:Γ} (h:St G F As) (i:Nat) (hi:As[i]? =Y3 (own s e n (cat vs))) (hn:∀d∈vs,d.size=n) (hk:vs[k]? =Y3 c) (h0:0<n)
  {off m:Nat} {v:Γ} (hm:v.size=m) (hv:off+m<=n) (hst:∀x∈v.toList,ak x) {C:Ψ} (kk:∀F',St G F' (As.set i (own s e n (cat (vs.set k (wr c off v.toList)))))->C F'):
  ∃a:Addr,s.YZ=Y3 a/\0<=(k:Int)/\(k:Int)<(s.len:Int)/\au F (Zb (Zb a (Zd (k:Int)*n)) off) m v C:=by
 obtain ⟨b,cur,h1,h2,h3,h4,h5⟩:=h.elAt i hi hn hk h0;have ea:Zb (Zb ⟨b,0,Y5⟩ (Zd (k:Int)*n)) off=⟨b,k*n+off,Y5⟩:=by simp only [aE,N4,Xm]
 refine ⟨_,h1,by omega,by omega,?_⟩;rw [ea];exact ⟨hm,hst,cur,e,h3,rfl,(by show k*n+off+m<=cur.size;omega),atI (kk _ (h5 off v.toList (by rw [Xb];omega)))⟩
theorem St.el1 {G F:PH} {As:List (Ψ)} {s:Sl} {e n k:Nat} {vs:List Γ} {c:Γ} (h:St G F As) (i:Nat) (hi:As[i]? =Y3 (own s e n (cat vs))) (hn:∀d∈vs,d.size=n) (hk:vs[k]? =Y3 c) (h0:0<n)
  {off:Nat} {v:ξ} (hv:off<n) {C:Ψ} (kk:∀F',St G F' (As.set i (own s e n (cat (vs.set k (c.setIfInBounds off v)))))->C F'):
  ∃a:Addr,s.YZ=Y3 a/\0<=(k:Int)/\(k:Int)<(s.len:Int)/\sto F (Zb (Zb a (Zd (k:Int)*n)) off) v C:=by
 obtain ⟨b,cur,h1,h2,h3,h4,h5⟩:=h.elAt i hi hn hk h0;have ea:Zb (Zb ⟨b,0,Y5⟩ (Zd (k:Int)*n)) off=⟨b,k*n+off,Y5⟩:=by simp only [aE,N4,Xm]
 refine ⟨_,h1,by omega,by omega,?_⟩;rw [ea];exact ⟨cur,e,h3,rfl,(by show k*n+off<cur.size;omega),atI (kk _ (h5 off [v] (by show off+1<=n;omega)))⟩
structure KF (K G F:PH) (b0 b1:Nat) (g:Gr) (c n t s sp l f:Sl) (vs:List Γ):Prop where
 k:K.le G
 st:St G F [pt b1 (Y4 (g.arr c n t s sp l f) 37),own sp 55 13 (cat vs),pt b0 (Y4 zG 37)]
 r:cZ G g.YV vs
 c:RL G c g.YY
 n:RL G n g.fam.1
 t:RL G t g.YX
 s:RL G s g.YW
 l:RL G l g.lvs
 f:RL G f g.fils
def KS (K F:PH) (b0 b1:Nat) (g:Gr):Prop:=∃G c n t s sp l f vs,KF K G F b0 b1 g c n t s sp l f vs
section
variable {K G F:PH} {b0 b1:Nat} {g:Gr} {c n t s sp l f:Sl} {vs:List Γ}
theorem KF.up {G' F':PH} (h:KF K G F b0 b1 g c n t s sp l f vs) (hl:G.le G') (st:St G' F' [pt b1 (Y4 (g.arr c n t s sp l f) 37),own sp 55 13 (cat vs),pt b0 (Y4 zG 37)]):KF K G' F' b0 b1 g c n t s sp l f vs:=
 ⟨aa h.k hl,st,h.r.le hl,h.c.le hl,h.n.le hl,h.t.le hl,h.s.le hl,h.l.le hl,h.f.le hl⟩
theorem KF.sz (h:KF K G F b0 b1 g c n t s sp l f vs):∀d∈vs,d.size=13:=by
 have:∀{l:List Pr} {vs:List Γ},cZ G l vs->∀d∈vs,d.size=13:=by
  intro l vs h;induction h with
  |nil=>intro d hd;cases hd
  |cons h _ ih=>
   intro d hd;rcases W6.1 hd with rfl|hd
   ·exact Mem.len h
   ·exact ih d hd
 exact this h.r
theorem KF.len (h:KF K G F b0 b1 g c n t s sp l f vs):sp.len=g.YV.length:=by obtain ⟨ho,-⟩:=h.st.ownAt (i:=1) rfl;have h1:=ho.rd.len;have h2:=h.r.cat_len;rw [h2] at h1;have:g.YV.length*13=sp.len*13:=h1;omega
def jp (fn:FuncId) (i:Int) (x:Sy):Prop:=∀F:PH,ai prog fn #[vi i] F λr F'=>r=Y9 x.arr/\F.le F'
theorem eI (i:Int):jp 49 i ⟨Y6,i⟩:=iz i
theorem cY (i:Int):jp 48 i ⟨Y8,i⟩:=kL i
theorem KF.add (h:KF K G F b0 b1 g c n t s sp l f vs) {nm:ο} {left:Int} {sx:Sl} {right:List Sy} (hx:RL G sx right) (hl:g.YV.length<=1000) {C:Ψ}
  (k:∀F',KS K F' b0 b1 {g with YV:=g.YV++[bE nm left right]}->C F'):
  ν 81 #[Zg nm,vi left,sx.v] F λv F=>∃w:Γ,v=Y9 w/\F.cell (Zc b1 5 Y5)=Y3 (Y7 sp)/\w.size=13/\∀b,F b=Y5->atF (F.set b (Y4 w 55)) λF=>
   aF prog (Builtin.append_ #[33,33] 33 #[Y7 sp,Y7 (Zj (Y3 (Zc b 0 Y5)) 1 1)]) F λv F=>∃s':Sl,v=Y7 s'/\sto F (Zc b1 5 Y5) (Y7 s') C:=by
 obtain ⟨_,_,T⟩:=Ob;refine h.st.run (tM nm left hx) λ_ G' F' hr l1 st=> ?_;obtain ⟨w,rfl,hw⟩:=hr;refine ⟨w,rfl,st.ld0 rfl,Mem.len hw,st.push1 T (Mem.len hw) (Mem.st hw) (by have:=h.len;omega) λs' G'' F'' l2 st' hlen=> ?_⟩;rw [show cat vs++w.toList=cat (vs++[w]) by rw [bY,cJ]] at st';refine st'.set0 (w':=Gr.arr {g with YV:=g.YV++[bE nm left right]} c n t s s' l f) (Zn rfl) rfl λF3 st=>k _ ?_;have l3:=aa l1 l2;exact ⟨G'',c,n,t,s,s',l,f,_,aa h.k l3,st,(h.r.le l3).append (.cons (Mem.le l2 hw) .nil),h.c.le l3,h.n.le l3,h.t.le l3,h.s.le l3,h.l.le l3,h.f.le l3⟩
theorem KF.el1 (h:KF K G F b0 b1 g c n t s sp l f vs) {k:Nat} {p p':Pr} (hp:g.YV[k]? =Y3 p) {off:Nat} {v:ξ} (ho:off<13) (hm:∀w,Mem.rep G p w->Mem.rep G p' (w.setIfInBounds off v)) {C:Ψ}
  (kk:∀F',KS K F' b0 b1 {g with YV:=g.YV.set k p'}->C F'):
  ∃a:Addr,sp.YZ=Y3 a/\0<=(k:Int)/\(k:Int)<(sp.len:Int)/\sto F (Zb (Zb a (Zd (k:Int)*13)) off) v C:=by
 obtain ⟨w,h1,h2,_⟩:=h.r.get hp;refine h.st.el1 1 rfl h.sz h1 (by decide) ho λF' st=>kk _ ?_;exact ⟨G,c,n,t,s,sp,l,f,_,h.k,st,h.r.set (hm w h2),h.c,h.n,h.t,h.s,h.l,h.f⟩
theorem KF.elN (h:KF K G F b0 b1 g c n t s sp l f vs) {k:Nat} {p p':Pr} (hp:g.YV[k]? =Y3 p) {off m:Nat} {v:Γ} (hs:v.size=m) (ho:off+m<=13) (hst:∀x∈v.toList,ak x) (hm:∀w,Mem.rep G p w->Mem.rep G p' (wr w off v.toList)) {C:Ψ}
  (kk:∀F',KS K F' b0 b1 {g with YV:=g.YV.set k p'}->C F'):
  ∃a:Addr,sp.YZ=Y3 a/\0<=(k:Int)/\(k:Int)<(sp.len:Int)/\au F (Zb (Zb a (Zd (k:Int)*13)) off) m v C:=by
 obtain ⟨w,h1,h2,_⟩:=h.r.get hp;refine h.st.elN 1 rfl h.sz h1 (by decide) hs ho hst λF' st=>kk _ ?_;exact ⟨G,c,n,t,s,sp,l,f,_,h.k,st,h.r.set (hm w h2),h.c,h.n,h.t,h.s,h.l,h.f⟩
theorem KS.set1 (h:KS K F b0 b1 g) (k:Nat) {p:Pr} (p':Pr) (hp:g.YV[k]? =Y3 p) {off:Nat} {v:ξ} (ho:off<13) (hm:∀(G:PH) w,Mem.rep G p w->Mem.rep G p' (w.setIfInBounds off v)) {C:Ψ}
  (kk:∀F',KS K F' b0 b1 {g with YV:=g.YV.set k p'}->C F'):
  ∃sp:Sl,F.cell (Zc b1 5 Y5)=Y3 (Y7 sp)/\∃a:Addr,sp.YZ=Y3 a/\0<=(k:Int)/\(k:Int)<(sp.len:Int)/\sto F (Zb (Zb a (Zd (k:Int)*13)) off) v C:=by
 obtain ⟨G,c,n,t,s,sp,l,f,vs,h⟩:=h;exact ⟨sp,h.st.ld0 rfl,h.el1 hp ho (hm G) kk⟩
theorem KS.setN (h:KS K F b0 b1 g) (k:Nat) {p:Pr} (p':Pr) (hp:g.YV[k]? =Y3 p) {off m:Nat} {v:Γ} (hs:v.size=m) (ho:off+m<=13) (hst:∀x∈v.toList,ak x) (hm:∀(G:PH) w,Mem.rep G p w->Mem.rep G p' (wr w off v.toList)) {C:Ψ}
  (kk:∀F',KS K F' b0 b1 {g with YV:=g.YV.set k p'}->C F'):
  ∃sp:Sl,F.cell (Zc b1 5 Y5)=Y3 (Y7 sp)/\∃a:Addr,sp.YZ=Y3 a/\0<=(k:Int)/\(k:Int)<(sp.len:Int)/\au F (Zb (Zb a (Zd (k:Int)*13)) off) m v C:=by
 obtain ⟨G,c,n,t,s,sp,l,f,vs,h⟩:=h;exact ⟨sp,h.st.ld0 rfl,h.elN hp hs ho hst (hm G) kk⟩
theorem KS.brk (h:KS K F b0 b1 g) (k:Nat) {p:Pr} (hp:g.YV[k]? =Y3 p) {C:Ψ} (kk:∀F',KS K F' b0 b1 {g with YV:=g.YV.set k {p with brk:=Y8}}->C F'):
  ∃sp:Sl,F.cell (Zc b1 5 Y5)=Y3 (Y7 sp)/\∃a:Addr,sp.YZ=Y3 a/\0<=(k:Int)/\(k:Int)<(sp.len:Int)/\sto F (Zb (Zb a (Zd (k:Int)*13)) 5) (Za Y8) C:=
 h.set1 k {p with brk:=Y8} hp (by decide) (λG w ⟨r,n,l,e,h1,h2,h3⟩=>⟨r,n,l,by rw [e];rfl,h1,h2,h3⟩) kk
theorem KS.rank (h:KS K F b0 b1 g) (k:Nat) {p:Pr} (hp:g.YV[k]? =Y3 p) {x:Int} {C:Ψ} (kk:∀F',KS K F' b0 b1 {g with YV:=g.YV.set k {p with rank:=x}}->C F'):
  ∃sp:Sl,F.cell (Zc b1 5 Y5)=Y3 (Y7 sp)/\∃a:Addr,sp.YZ=Y3 a/\0<=(k:Int)/\(k:Int)<(sp.len:Int)/\sto F (Zb (Zb a (Zd (k:Int)*13)) 6) (vi x) C:=
 h.set1 k {p with rank:=x} hp (by decide) (λG w ⟨r,n,l,e,h1,h2,h3⟩=>⟨r,n,l,by rw [e];rfl,h1,h2,h3⟩) kk
theorem KS.sco (h:KS K F b0 b1 g) (k:Nat) {p:Pr} (hp:g.YV[k]? =Y3 p) {x0:Bool} {x1 x2 x3 x4:Int} {C:Ψ} (kk:∀F',KS K F' b0 b1 {g with YV:=g.YV.set k {p with sco:=⟨x0,x1,x2,x3,x4⟩}}->C F'):
  ∃sp:Sl,F.cell (Zc b1 5 Y5)=Y3 (Y7 sp)/\∃a:Addr,sp.YZ=Y3 a/\0<=(k:Int)/\(k:Int)<(sp.len:Int)/\au F (Zb (Zb a (Zd (k:Int)*13)) 8) 5 #[Za x0,vi x1,vi x2,vi x3,vi x4] C:=
 h.setN k {p with sco:=⟨x0,x1,x2,x3,x4⟩} hp rfl (by show 8+5<=13;decide) (by simp [ak]) (λG w ⟨r,n,l,e,h1,h2,h3⟩=>⟨r,n,l,by rw [e];rfl,h1,h2,h3⟩) kk
theorem KS.cnd (h:KS K F b0 b1 g) (k:Nat) {p:Pr} (hp:g.YV[k]? =Y3 p) (v:Nat) (hv:v<=63) {C:Ψ} (kk:∀F',KS K F' b0 b1 {g with YV:=g.YV.set k {p with cond:=dia (tv v)}}->C F'):
  ∃sp:Sl,F.cell (Zc b1 5 Y5)=Y3 (Y7 sp)/\ν 85 #[vi v] F λr F=>∃w:Γ,r=Y9 w/\F.cell (Zc b1 5 Y5)=Y3 (Y7 sp)/\
   ∃a:Addr,sp.YZ=Y3 a/\0<=(k:Int)/\(k:Int)<(sp.len:Int)/\au F (Zb (Zb a (Zd (k:Int)*13)) 3) 2 w C:=by
 obtain ⟨G,c,n,t,s,sp,l,f,vs,h⟩:=h;refine ⟨sp,h.st.ld0 rfl,h.st.run (aL v hv _) λ_ G' F' hr l1 st=> ?_⟩;obtain ⟨w,rfl,hw⟩:=hr;obtain ⟨m,rfl,hm⟩:=hw.out;refine ⟨_,rfl,st.ld0 rfl,(h.up l1 st).elN (p':={p with cond:=dia (tv v)}) hp rfl (by show 3+2<=13;decide) (by simp [ak,Y7]) (λw ⟨r,n,l,e,h1,h2,h3⟩=>⟨r,m,l,by rw [e];rfl,h1,hm,h3⟩) kk⟩
theorem zt {F:PH} {b:Nat} {e:TypeId} {x:Cn} (q:F b=Y3 (Y4 x.arr e)):RL F (Zj (Y3 (Zc b 0 Y5)) 1 1) [x]:=⟨[x.arr],.cons rfl .nil,RdS.new q rfl rfl (W8 _)⟩
theorem N0 {F:PH} {b:Nat} {e:TypeId} {x y:Cn} (q:F b=Y3 (Y4 (wr (wr (#[Zf .i64 0,.int .i64 0,.int .i64 0,.int .i64 0,.int .i64 0,.int .i64 0]:Γ) 0 x.arr.toList) 3 y.arr.toList) e)):RL F (Zj (Y3 (Zc b 0 Y5)) 2 2) [x,y]:=⟨[x.arr,y.arr],.cons rfl (.cons rfl .nil),RdS.new q rfl rfl (W8 _)⟩
theorem KS.lay1 (h:KS K F b0 b1 g) (k:Nat) {p:Pr} (hp:g.YV[k]? =Y3 p) {x1 x2 x3:Int} {C:Ψ} (kk:∀F',KS K F' b0 b1 {g with YV:=g.YV.set k {p with lay:=[⟨x1,x2,x3⟩]}}->C F'):
  ∃sp:Sl,F.cell (Zc b1 5 Y5)=Y3 (Y7 sp)/\(#[vi x1,vi x2,vi x3]:Γ).size=3/\∀b,F b=Y5->atF (F.set b (Y4 (#[vi x1,vi x2,vi x3]:Γ) 153)) λF=>
   ∃a:Addr,sp.YZ=Y3 a/\0<=(k:Int)/\(k:Int)<(sp.len:Int)/\sto F (Zb (Zb a (Zd (k:Int)*13)) 7) (Y7 (Zj (Y3 (Zc b 0 Y5)) 1 1)) C:=by
 obtain ⟨G,c,n,t,s,sp,l,f,vs,h⟩:=h;refine ⟨sp,h.st.ld0 rfl,rfl,h.st.newG λb G' F' l1 q _ st=> ?_⟩;exact (h.up l1 st).el1 (p':={p with lay:=[⟨x1,x2,x3⟩]}) hp (by decide) (λw ⟨r,n,l,e,h1,h2,h3⟩=>⟨r,n,_,by rw [e];rfl,h1,h2,zt (x:=⟨x1,x2,x3⟩) q⟩) kk
theorem KS.lay2 (h:KS K F b0 b1 g) (k:Nat) {p:Pr} (hp:g.YV[k]? =Y3 p) {x1 x2 x3 y1 y2 y3:Int} {C:Ψ} (kk:∀F',KS K F' b0 b1 {g with YV:=g.YV.set k {p with lay:=[⟨x1,x2,x3⟩,⟨y1,y2,y3⟩]}}->C F'):
  ∃sp:Sl,F.cell (Zc b1 5 Y5)=Y3 (Y7 sp)/\(#[vi x1,vi x2,vi x3]:Γ).size=3/\(#[vi y1,vi y2,vi y3]:Γ).size=3/\
   ∀b,F b=Y5->atF (F.set b (Y4 (wr (wr (#[Zf .i64 0,.int .i64 0,.int .i64 0,.int .i64 0,.int .i64 0,.int .i64 0]:Γ) 0 (#[vi x1,vi x2,vi x3]:Γ).toList) 3 (#[vi y1,vi y2,vi y3]:Γ).toList) 153)) λF=>
   ∃a:Addr,sp.YZ=Y3 a/\0<=(k:Int)/\(k:Int)<(sp.len:Int)/\sto F (Zb (Zb a (Zd (k:Int)*13)) 7) (Y7 (Zj (Y3 (Zc b 0 Y5)) 2 2)) C:=by
 obtain ⟨G,c,n,t,s,sp,l,f,vs,h⟩:=h;refine ⟨sp,h.st.ld0 rfl,rfl,rfl,h.st.newG λb G' F' l1 q _ st=> ?_⟩;exact (h.up l1 st).el1 (p':={p with lay:=[⟨x1,x2,x3⟩,⟨y1,y2,y3⟩]}) hp (by decide) (λw ⟨r,n,l,e,h1,h2,h3⟩=>⟨r,n,_,by rw [e];rfl,h1,h2,N0 (x:=⟨x1,x2,x3⟩) (y:=⟨y1,y2,y3⟩) q⟩) kk
theorem KS.fin (h:KS K F b0 b1 g) {R:VR} (k:∀w F',GV F' w g->K.le F'->R (Y9 w) F'):
  ∃v:Γ,v.size=9/\F.row (Zc b1 0 Y5) v/\au F (Zc b0 0 Y5) 9 v λF=>∃w:Γ,w.size=9/\F.row (Zc b0 0 Y5) w/\R (Y9 w) F:=by
 obtain ⟨G,c,n,t,s,sp,l,f,vs,h⟩:=h;refine ⟨_,rfl,h.st.whole0,?_⟩;refine h.st.put2 (w':=g.arr c n t s sp l f) rfl rfl (by simp [ak,Y7]) λF' st=> ?_;obtain ⟨ho,-⟩:=st.ownAt (i:=1) rfl;refine ⟨_,rfl,st.whole2,k _ _ ⟨c,n,t,s,sp,l,f,rfl,h.c.le st.le,h.n.le st.le,h.t.le st.le,h.s.le st.le,⟨vs,h.r.le st.le,ho.rd⟩,h.l.le st.le,h.f.le st.le⟩ (aa h.k st.le)⟩
theorem KS.lvs (h:KS K F b0 b1 g) {sx:Sl} {x:List Lv} (hx:RL K sx x) {C:Ψ} (kk:∀F',KS K F' b0 b1 {g with lvs:=x}->C F'):sto F (Zc b1 7 Y5) (Y7 sx) C:=by obtain ⟨G,c,n,t,s,sp,l,f,vs,h⟩:=h;refine h.st.set0 (w':=Gr.arr {g with lvs:=x} c n t s sp sx f) (Zn rfl) rfl λF' st=>kk _ ?_;exact ⟨G,c,n,t,s,sp,sx,f,vs,h.k,st,h.r,h.c,h.n,h.t,h.s,hx.le h.k,h.f⟩
theorem KS.fils (h:KS K F b0 b1 g) {sx:Sl} {x:List Fi} (hx:RL K sx x) {C:Ψ} (kk:∀F',KS K F' b0 b1 {g with fils:=x}->C F'):sto F (Zc b1 8 Y5) (Y7 sx) C:=by obtain ⟨G,c,n,t,s,sp,l,f,vs,h⟩:=h;refine h.st.set0 (w':=Gr.arr {g with fils:=x} c n t s sp l sx) (Zn rfl) rfl λF' st=>kk _ ?_;exact ⟨G,c,n,t,s,sp,l,sx,vs,h.k,st,h.r,h.c,h.n,h.t,h.s,h.l,hx.le h.k⟩
theorem KS.new (h:KS K F b0 b1 g) {o:Obj} {C:Nat->Ψ} (k:∀b K' F',K.le K'->K' b=Y3 o->KS K' F' b0 b1 g->C b F'):∀b,F b=Y5->atF (F.set b o) (C b):=by obtain ⟨G,c,n,t,s,sp,l,f,vs,h⟩:=h;exact h.st.newG λb G' F' l1 q _ st=>k b G' F' (aa h.k l1) q ⟨G',c,n,t,s,sp,l,f,vs,am _,st,h.r.le l1,h.c.le l1,h.n.le l1,h.t.le l1,h.s.le l1,h.l.le l1,h.f.le l1⟩
theorem KS.run (h:KS K F b0 b1 g) {fn:FuncId} {args:Γ} {P:ξ->Ψ} {Q:ξ->Ψ} (sp:∀G,K.le G->ai prog fn args G λr G'=>P r G'/\G.le G') (k:∀r K' F',P r K'->K.le K'->KS K' F' b0 b1 g->Q r F'):ai prog fn args F Q:=by obtain ⟨G,c,n,t,s,sl,l,f,vs,h⟩:=h;exact h.st.run (sp G h.k) λr G' F' hp l1 st=>k r G' F' hp (aa h.k l1) ⟨G',c,n,t,s,sl,l,f,vs,am _,st,h.r.le l1,h.c.le l1,h.n.le l1,h.t.le l1,h.s.le l1,h.l.le l1,h.f.le l1⟩
theorem KS.le (h:KS K F b0 b1 g):K.le F:=by obtain ⟨G,c,n,t,s,sp,l,f,vs,h⟩:=h;exact aa h.k h.st.le
theorem KS.rule0 (h:KS K F b0 b1 g) (hl:g.YV.length<=1000) {nm:ο} {left:Int} {C:Ψ} (k:∀F',KS K F' b0 b1 {g with YV:=g.YV++[bE nm left []]}->C F'):
  ∃sp:Sl,F.cell (Zc b1 5 Y5)=Y3 (Y7 sp)/\∀b,F b=Y5->atF (F.set b (Y4 #[] 63)) λF=>
   ν 81 #[Zg nm,vi left,Y7 (Zj (Y3 (Zc b 0 Y5)) 0 0)] F λv F=>∃w:Γ,v=Y9 w/\F.cell (Zc b1 5 Y5)=Y3 (Y7 sp)/\w.size=13/\∀b,F b=Y5->atF (F.set b (Y4 w 55)) λF=>
   aF prog (Builtin.append_ #[33,33] 33 #[Y7 sp,Y7 (Zj (Y3 (Zc b 0 Y5)) 1 1)]) F λv F=>∃s':Sl,v=Y7 s'/\sto F (Zc b1 5 Y5) (Y7 s') C:=by
 obtain ⟨G,c,n,t,s,sp,l,f,vs,h⟩:=h;refine ⟨sp,h.st.ld0 rfl,?_⟩;refine h.st.newG λb G9 F9 l9 q _ st=> ?_;exact (h.up l9 st).add ⟨[],.nil,RdS.new q (by kernel_rfl) rfl (W8 _)⟩ hl k
theorem KS.rule1 (h:KS K F b0 b1 g) {f1:FuncId} {i1:Int} {x1:Sy} (s1:jp f1 i1 x1) (hl:g.YV.length<=1000) {nm:ο} {left:Int} {C:Ψ} (k:∀F',KS K F' b0 b1 {g with YV:=g.YV++[bE nm left [x1]]}->C F'):
  ∃sp:Sl,F.cell (Zc b1 5 Y5)=Y3 (Y7 sp)/\ai prog f1 #[vi i1] F λv F=>∃v1:Γ,v=Y9 v1/\F.cell (Zc b1 5 Y5)=Y3 (Y7 sp)/\v1.size=2/\∀b,F b=Y5->atF (F.set b (Y4 v1 63)) λF=>
   ν 81 #[Zg nm,vi left,Y7 (Zj (Y3 (Zc b 0 Y5)) 1 1)] F λv F=>∃w:Γ,v=Y9 w/\F.cell (Zc b1 5 Y5)=Y3 (Y7 sp)/\w.size=13/\∀b,F b=Y5->atF (F.set b (Y4 w 55)) λF=>
   aF prog (Builtin.append_ #[33,33] 33 #[Y7 sp,Y7 (Zj (Y3 (Zc b 0 Y5)) 1 1)]) F λv F=>∃s':Sl,v=Y7 s'/\sto F (Zc b1 5 Y5) (Y7 s') C:=by
 obtain ⟨G,c,n,t,s,sp,l,f,vs,h⟩:=h;refine ⟨sp,h.st.ld0 rfl,?_⟩;refine h.st.runv (s1 _) λG1 F1 l1 st=> ?_;refine ⟨_,rfl,st.ld0 rfl,rfl,?_⟩;refine st.newG λb G9 F9 l9 q _ st=> ?_;exact (h.up (aa l1 l9) st).add ⟨[x1.arr],(.cons rfl .nil),RdS.new q (by kernel_rfl) rfl (W8 _)⟩ hl k
theorem KS.rule2 (h:KS K F b0 b1 g) {f1 f2:FuncId} {i1 i2:Int} {x1 x2:Sy} (s1:jp f1 i1 x1) (s2:jp f2 i2 x2) (hl:g.YV.length<=1000) {nm:ο} {left:Int} {C:Ψ} (k:∀F',KS K F' b0 b1 {g with YV:=g.YV++[bE nm left [x1,x2]]}->C F'):
  ∃sp:Sl,F.cell (Zc b1 5 Y5)=Y3 (Y7 sp)/\ai prog f1 #[vi i1] F λv F=>∃v1:Γ,v=Y9 v1/\F.cell (Zc b1 5 Y5)=Y3 (Y7 sp)/\ai prog f2 #[vi i2] F λv F=>∃v2:Γ,v=Y9 v2/\F.cell (Zc b1 5 Y5)=Y3 (Y7 sp)/\v1.size=2/\v2.size=2/\∀b,F b=Y5->atF (F.set b (Y4 (wr (wr (#[Za Y6,.int .i64 0,.bool Y6,.int .i64 0]:Γ) 0 v1.toList) 2 v2.toList) 63)) λF=>
   ν 81 #[Zg nm,vi left,Y7 (Zj (Y3 (Zc b 0 Y5)) 2 2)] F λv F=>∃w:Γ,v=Y9 w/\F.cell (Zc b1 5 Y5)=Y3 (Y7 sp)/\w.size=13/\∀b,F b=Y5->atF (F.set b (Y4 w 55)) λF=>
   aF prog (Builtin.append_ #[33,33] 33 #[Y7 sp,Y7 (Zj (Y3 (Zc b 0 Y5)) 1 1)]) F λv F=>∃s':Sl,v=Y7 s'/\sto F (Zc b1 5 Y5) (Y7 s') C:=by
 obtain ⟨G,c,n,t,s,sp,l,f,vs,h⟩:=h;refine ⟨sp,h.st.ld0 rfl,?_⟩;refine h.st.runv (s1 _) λG1 F1 l1 st=> ?_;refine ⟨_,rfl,st.ld0 rfl,?_⟩;refine st.runv (s2 _) λG2 F2 l2 st=> ?_;refine ⟨_,rfl,st.ld0 rfl,rfl,rfl,?_⟩;refine st.newG λb G9 F9 l9 q _ st=> ?_;exact (h.up (aa l1 (aa l2 l9)) st).add ⟨[x1.arr,x2.arr],(.cons rfl (.cons rfl .nil)),RdS.new q (by kernel_rfl) rfl (W8 _)⟩ hl k
theorem KS.rule3 (h:KS K F b0 b1 g) {f1 f2 f3:FuncId} {i1 i2 i3:Int} {x1 x2 x3:Sy} (s1:jp f1 i1 x1) (s2:jp f2 i2 x2) (s3:jp f3 i3 x3) (hl:g.YV.length<=1000) {nm:ο} {left:Int} {C:Ψ} (k:∀F',KS K F' b0 b1 {g with YV:=g.YV++[bE nm left [x1,x2,x3]]}->C F'):
  ∃sp:Sl,F.cell (Zc b1 5 Y5)=Y3 (Y7 sp)/\ai prog f1 #[vi i1] F λv F=>∃v1:Γ,v=Y9 v1/\F.cell (Zc b1 5 Y5)=Y3 (Y7 sp)/\ai prog f2 #[vi i2] F λv F=>∃v2:Γ,v=Y9 v2/\F.cell (Zc b1 5 Y5)=Y3 (Y7 sp)/\ai prog f3 #[vi i3] F λv F=>∃v3:Γ,v=Y9 v3/\F.cell (Zc b1 5 Y5)=Y3 (Y7 sp)/\v1.size=2/\v2.size=2/\v3.size=2/\∀b,F b=Y5->atF (F.set b (Y4 (wr (wr (wr (#[Za Y6,.int .i64 0,.bool Y6,.int .i64 0,.bool Y6,.int .i64 0]:Γ) 0 v1.toList) 2 v2.toList) 4 v3.toList) 63)) λF=>
   ν 81 #[Zg nm,vi left,Y7 (Zj (Y3 (Zc b 0 Y5)) 3 3)] F λv F=>∃w:Γ,v=Y9 w/\F.cell (Zc b1 5 Y5)=Y3 (Y7 sp)/\w.size=13/\∀b,F b=Y5->atF (F.set b (Y4 w 55)) λF=>
   aF prog (Builtin.append_ #[33,33] 33 #[Y7 sp,Y7 (Zj (Y3 (Zc b 0 Y5)) 1 1)]) F λv F=>∃s':Sl,v=Y7 s'/\sto F (Zc b1 5 Y5) (Y7 s') C:=by
 obtain ⟨G,c,n,t,s,sp,l,f,vs,h⟩:=h;refine ⟨sp,h.st.ld0 rfl,?_⟩;refine h.st.runv (s1 _) λG1 F1 l1 st=> ?_;refine ⟨_,rfl,st.ld0 rfl,?_⟩;refine st.runv (s2 _) λG2 F2 l2 st=> ?_;refine ⟨_,rfl,st.ld0 rfl,?_⟩;refine st.runv (s3 _) λG3 F3 l3 st=> ?_;refine ⟨_,rfl,st.ld0 rfl,rfl,rfl,rfl,?_⟩;refine st.newG λb G9 F9 l9 q _ st=> ?_;exact (h.up (aa l1 (aa l2 (aa l3 l9))) st).add ⟨[x1.arr,x2.arr,x3.arr],(.cons rfl (.cons rfl (.cons rfl .nil))),RdS.new q (by kernel_rfl) rfl (W8 _)⟩ hl k
theorem KS.rule4 (h:KS K F b0 b1 g) {f1 f2 f3 f4:FuncId} {i1 i2 i3 i4:Int} {x1 x2 x3 x4:Sy} (s1:jp f1 i1 x1) (s2:jp f2 i2 x2) (s3:jp f3 i3 x3) (s4:jp f4 i4 x4) (hl:g.YV.length<=1000) {nm:ο} {left:Int} {C:Ψ} (k:∀F',KS K F' b0 b1 {g with YV:=g.YV++[bE nm left [x1,x2,x3,x4]]}->C F'):
  ∃sp:Sl,F.cell (Zc b1 5 Y5)=Y3 (Y7 sp)/\ai prog f1 #[vi i1] F λv F=>∃v1:Γ,v=Y9 v1/\F.cell (Zc b1 5 Y5)=Y3 (Y7 sp)/\ai prog f2 #[vi i2] F λv F=>∃v2:Γ,v=Y9 v2/\F.cell (Zc b1 5 Y5)=Y3 (Y7 sp)/\ai prog f3 #[vi i3] F λv F=>∃v3:Γ,v=Y9 v3/\F.cell (Zc b1 5 Y5)=Y3 (Y7 sp)/\ai prog f4 #[vi i4] F λv F=>∃v4:Γ,v=Y9 v4/\F.cell (Zc b1 5 Y5)=Y3 (Y7 sp)/\v1.size=2/\v2.size=2/\v3.size=2/\v4.size=2/\∀b,F b=Y5->atF (F.set b (Y4 (wr (wr (wr (wr (#[Za Y6,.int .i64 0,.bool Y6,.int .i64 0,.bool Y6,.int .i64 0,.bool Y6,.int .i64 0]:Γ) 0 v1.toList) 2 v2.toList) 4 v3.toList) 6 v4.toList) 63)) λF=>
   ν 81 #[Zg nm,vi left,Y7 (Zj (Y3 (Zc b 0 Y5)) 4 4)] F λv F=>∃w:Γ,v=Y9 w/\F.cell (Zc b1 5 Y5)=Y3 (Y7 sp)/\w.size=13/\∀b,F b=Y5->atF (F.set b (Y4 w 55)) λF=>
   aF prog (Builtin.append_ #[33,33] 33 #[Y7 sp,Y7 (Zj (Y3 (Zc b 0 Y5)) 1 1)]) F λv F=>∃s':Sl,v=Y7 s'/\sto F (Zc b1 5 Y5) (Y7 s') C:=by
 obtain ⟨G,c,n,t,s,sp,l,f,vs,h⟩:=h;refine ⟨sp,h.st.ld0 rfl,?_⟩;refine h.st.runv (s1 _) λG1 F1 l1 st=> ?_;refine ⟨_,rfl,st.ld0 rfl,?_⟩;refine st.runv (s2 _) λG2 F2 l2 st=> ?_;refine ⟨_,rfl,st.ld0 rfl,?_⟩;refine st.runv (s3 _) λG3 F3 l3 st=> ?_;refine ⟨_,rfl,st.ld0 rfl,?_⟩;refine st.runv (s4 _) λG4 F4 l4 st=> ?_;refine ⟨_,rfl,st.ld0 rfl,rfl,rfl,rfl,rfl,?_⟩;refine st.newG λb G9 F9 l9 q _ st=> ?_;exact (h.up (aa l1 (aa l2 (aa l3 (aa l4 l9)))) st).add ⟨[x1.arr,x2.arr,x3.arr,x4.arr],(.cons rfl (.cons rfl (.cons rfl (.cons rfl .nil)))),RdS.new q (by kernel_rfl) rfl (W8 _)⟩ hl k
theorem KS.rule5 (h:KS K F b0 b1 g) {f1 f2 f3 f4 f5:FuncId} {i1 i2 i3 i4 i5:Int} {x1 x2 x3 x4 x5:Sy} (s1:jp f1 i1 x1) (s2:jp f2 i2 x2) (s3:jp f3 i3 x3) (s4:jp f4 i4 x4) (s5:jp f5 i5 x5) (hl:g.YV.length<=1000) {nm:ο} {left:Int} {C:Ψ} (k:∀F',KS K F' b0 b1 {g with YV:=g.YV++[bE nm left [x1,x2,x3,x4,x5]]}->C F'):
  ∃sp:Sl,F.cell (Zc b1 5 Y5)=Y3 (Y7 sp)/\ai prog f1 #[vi i1] F λv F=>∃v1:Γ,v=Y9 v1/\F.cell (Zc b1 5 Y5)=Y3 (Y7 sp)/\ai prog f2 #[vi i2] F λv F=>∃v2:Γ,v=Y9 v2/\F.cell (Zc b1 5 Y5)=Y3 (Y7 sp)/\ai prog f3 #[vi i3] F λv F=>∃v3:Γ,v=Y9 v3/\F.cell (Zc b1 5 Y5)=Y3 (Y7 sp)/\ai prog f4 #[vi i4] F λv F=>∃v4:Γ,v=Y9 v4/\F.cell (Zc b1 5 Y5)=Y3 (Y7 sp)/\ai prog f5 #[vi i5] F λv F=>∃v5:Γ,v=Y9 v5/\F.cell (Zc b1 5 Y5)=Y3 (Y7 sp)/\v1.size=2/\v2.size=2/\v3.size=2/\v4.size=2/\v5.size=2/\∀b,F b=Y5->atF (F.set b (Y4 (wr (wr (wr (wr (wr (#[Za Y6,.int .i64 0,.bool Y6,.int .i64 0,.bool Y6,.int .i64 0,.bool Y6,.int .i64 0,.bool Y6,.int .i64 0]:Γ) 0 v1.toList) 2 v2.toList) 4 v3.toList) 6 v4.toList) 8 v5.toList) 63)) λF=>
   ν 81 #[Zg nm,vi left,Y7 (Zj (Y3 (Zc b 0 Y5)) 5 5)] F λv F=>∃w:Γ,v=Y9 w/\F.cell (Zc b1 5 Y5)=Y3 (Y7 sp)/\w.size=13/\∀b,F b=Y5->atF (F.set b (Y4 w 55)) λF=>
   aF prog (Builtin.append_ #[33,33] 33 #[Y7 sp,Y7 (Zj (Y3 (Zc b 0 Y5)) 1 1)]) F λv F=>∃s':Sl,v=Y7 s'/\sto F (Zc b1 5 Y5) (Y7 s') C:=by
 obtain ⟨G,c,n,t,s,sp,l,f,vs,h⟩:=h;refine ⟨sp,h.st.ld0 rfl,?_⟩;refine h.st.runv (s1 _) λG1 F1 l1 st=> ?_;refine ⟨_,rfl,st.ld0 rfl,?_⟩;refine st.runv (s2 _) λG2 F2 l2 st=> ?_;refine ⟨_,rfl,st.ld0 rfl,?_⟩;refine st.runv (s3 _) λG3 F3 l3 st=> ?_;refine ⟨_,rfl,st.ld0 rfl,?_⟩;refine st.runv (s4 _) λG4 F4 l4 st=> ?_;refine ⟨_,rfl,st.ld0 rfl,?_⟩;refine st.runv (s5 _) λG5 F5 l5 st=> ?_;refine ⟨_,rfl,st.ld0 rfl,rfl,rfl,rfl,rfl,rfl,?_⟩;refine st.newG λb G9 F9 l9 q _ st=> ?_;exact (h.up (aa l1 (aa l2 (aa l3 (aa l4 (aa l5 l9))))) st).add ⟨[x1.arr,x2.arr,x3.arr,x4.arr,x5.arr],(.cons rfl (.cons rfl (.cons rfl (.cons rfl (.cons rfl .nil))))),RdS.new q (by kernel_rfl) rfl (W8 _)⟩ hl k
end
theorem St.imp {G F:PH} {As:List (Ψ)} (h:St G F As) (i:Nat) {A A':Ψ} (hi:As[i]? =Y3 A) (f:∀H,H.le F->A H->A' H):St G F (As.set i A'):=by obtain ⟨H,a1,a2,a3,a4⟩:=h.set (A':=A') hi;exact a4 H F (f H a3 a1) (λb hb=> .inl hb) a3 λb o hb _=>hb
def vq:List ο:=[⟨#[43]⟩,⟨#[42]⟩,⟨#[40]⟩,⟨#[41]⟩,⟨#[105,102]⟩,⟨#[101,108,115,101]⟩,⟨#[59]⟩,⟨#[94]⟩]
def ln:Tk:=⟨⟨#[105,100]⟩,0,⟨#[]⟩,[⟨1,97,122,0,0⟩,⟨1,97,122,0,0⟩,⟨4,0,0,1,0⟩,⟨2,0,0,0,2⟩],⟨#[120]⟩,aK⟩
def tkL (x:ο):Tk:=⟨x,0,x,[],⟨#[]⟩,aK⟩
def jI:Tk:=⟨⟨#[115,112,97,99,101]⟩,1,⟨#[]⟩,[⟨1,9,10,0,0⟩,⟨1,32,32,0,0⟩,⟨3,0,0,0,1⟩,⟨1,9,10,0,0⟩,⟨1,32,32,0,0⟩,⟨3,0,0,3,4⟩,⟨4,0,0,5,0⟩,⟨2,0,0,2,6⟩],⟨#[]⟩,aK⟩
def gS:Tk:=⟨⟨#[114,101,109,97,114,107]⟩,2,⟨#[]⟩,[⟨1,37,37,0,0⟩,⟨1,97,122,0,0⟩,⟨1,32,32,0,0⟩,⟨3,0,0,1,2⟩,⟨4,0,0,3,0⟩,⟨2,0,0,0,4⟩],⟨#[]⟩,aK⟩
def dN:List Tk:=ln::vq.map tkL++[jI,gS]
theorem pd {F:PH} {x:Tk} {p n:Sl} (hp:RL F p x.pat) (hn:RL F n x.cond.1):Mem.rep F x (x.arr p n):=⟨p,n,rfl,hp,hn⟩
theorem oe (F:PH):ν 111 #[] F λr F'=>(∃s,r=Y7 s/\RL F' s dN)/\F.le F':=by
 obtain ⟨_,_,T⟩:=QM;refine QY ?_;unfold LH;refine (St.start F).run (ga _) λ_ G1 F1 hr l1 h=> ?_;obtain ⟨w,rfl,hw⟩:=hr;obtain ⟨n,rfl,hn⟩:=hw.out;refine ⟨_,rfl,?_⟩;refine h.new λb1 F2 h=> ?_;refine h.put0 (w':= #[n.v,vi aK.2]) rfl rfl (by simp [ak,Y7]) λF3 h=> ?_;refine ⟨_,rfl,h.whole0,rfl,rfl,?_⟩;refine h.new λb10 F4 h=> ?_;refine h.runv (dH 97 122 _) λG2 F5 l2 h=> ?_;refine ⟨_,rfl,?_⟩;refine h.runv (dH 97 122 _) λG3 F6 l3 h=> ?_;refine ⟨_,rfl,?_⟩;refine h.runv (cg 4 1 0 _) λG4 F7 l4 h=> ?_;refine ⟨_,rfl,?_⟩;refine h.runv (cg 2 0 2 _) λG5 F8 l5 h=> ?_;refine ⟨_,rfl,rfl,rfl,rfl,rfl,?_⟩;refine h.newG λb16 G6 F9 l6 q16 _ h=> ?_;have l16:G1.le G6:=aa l2 (aa l3 (aa l4 (aa l5 l6)));have h:=h.imp (A':=own (Zj (Y3 (Zc b10 0 Y5)) 1 1) 146 7 (cat [Tk.arr ⟨⟨#[105,100]⟩,0,⟨#[]⟩,[],⟨#[120]⟩,aK⟩ Zi n])) 0 rfl λH _ hH=> .inr ⟨b10,_,rfl,hH,rfl,W8 _,rfl,rfl⟩;refine h.el1 0 rfl (by simp) (c:=Tk.arr ⟨⟨#[105,100]⟩,0,⟨#[]⟩,[],⟨#[120]⟩,aK⟩ Zi n) (k:=0) rfl (by decide) (by decide) λF10 h=> ?_;refine h.newG λb19 G7 F11 l7 q19 _ h=> ?_;have lt:=aa l16 l7;have r0:cZ G7 [ln] [ln.arr (Zj (Y3 (Zc b16 0 Y5)) 4 4) n]:=.cons (pd ⟨[_,_,_,_],.cons rfl (.cons rfl (.cons rfl (.cons rfl .nil))),RdS.new (l7 _ _ q16) rfl rfl (W8 _)⟩ (hn.le lt)) .nil;replace h:St G7 F11 [own (Zj (Y3 (Zc b10 0 Y5)) 1 1) 146 7 (cat [ln.arr (Zj (Y3 (Zc b16 0 Y5)) 4 4) n]),pt b1 (Y4 #[n.v,vi aK.2] 31)]:=h;have hl:RL G7 (Zj (Y3 (Zc b19 0 Y5)) 8 8) vq:=RL.strs.2 (RdS.new q19 rfl rfl (W8 _));have lF:F.le G7:=aa l1 lt;refine ⟨λm out i F'=>∃k:Nat,k<=8/\i=k/\m=8 - k/\out.len=k+1/\∃G vs,G7.le G/\cZ G (ln::(vq.take k).map tkL) vs/\St G F' [own out 146 7 (cat vs),pt b1 (Y4 #[n.v,vi aK.2] 31)],8,⟨0,by decide,rfl,rfl,rfl,G7,_,am _,r0,h⟩,?_⟩;rintro m out i F' ⟨k,hk,rfl,rfl,hlen,G,vs,lG,hr,h⟩;unfold BJ;refine ⟨λhi=> ?_,λhi=> ?_⟩
 ·have hk8:k<8:=by have:(k:Int)<8:=hi;omega
  have hx:vq[k]? =Y3 (vq[k]'hk8):=N5 hk8;generalize vq[k]=x at hx;obtain ⟨a,c,ha,hrow,hc⟩:=hl.get (by decide) hx;cases hc;cases ha;have hcell:∀{F':PH},G7.le F'->F'.cell (Zb (Zc b19 0 Y5) (Zd (k:Int)*1))=Y3 (Zg x):=λhF=>aQ (aU hF hrow) rfl;refine ⟨_,rfl,by omega,hi,x,hcell (aa lG h.le),_,rfl,by omega,hi,x,hcell (aa lG h.le),_,rfl,h.whole1,rfl,rfl,?_⟩;refine h.push0 T (c:=(tkL x).arr Zi n) rfl (by simp [ak,Y7]) (by omega) λs' G' F2 l' h hl'=> ?_;refine ⟨h.whole1,hcell (aa lG (aa l' h.le)),hcell (aa lG (aa l' h.le)),8 - (k+1),by omega,k+1,by omega,?_,rfl,by omega,G',vs++[(tkL x).arr Zi n],aa lG l',?_,?_⟩
  ·exact aA (n:=8) hk8 (by decide)
  ·have e:vq.take (k+1)=vq.take k++[x]:=by rw [XL,hx];rfl
   rw [e,Xt,<- XP];exact (hr.le l').append (.cons (pd (.nil _) (hn.le (aa lt (aa lG l')))) .nil)
  ·rw [bY,cJ];exact h
 ·have hk8:k=8:=by have:¬(k:Int)<8:=hi;omega
  subst hk8;unfold BI;have r9:=hr;refine h.runv (dH 9 10 _) λH1 F1 m1 h=> ?_;refine ⟨_,rfl,?_⟩;refine h.runv (dH 32 32 _) λH2 F1 m2 h=> ?_;refine ⟨_,rfl,?_⟩;refine h.runv (cg 3 0 1 _) λH3 F1 m3 h=> ?_;refine ⟨_,rfl,?_⟩;refine h.runv (dH 9 10 _) λH4 F1 m4 h=> ?_;refine ⟨_,rfl,?_⟩;refine h.runv (dH 32 32 _) λH5 F1 m5 h=> ?_;refine ⟨_,rfl,?_⟩;refine h.runv (cg 3 3 4 _) λH6 F1 m6 h=> ?_;refine ⟨_,rfl,?_⟩;refine h.runv (cg 4 5 0 _) λH7 F1 m7 h=> ?_;refine ⟨_,rfl,?_⟩;refine h.runv (cg 2 2 6 _) λH8 F1 m8 h=> ?_;refine ⟨_,rfl,rfl,rfl,rfl,rfl,rfl,rfl,rfl,rfl,?_⟩;refine h.newG λb47 H9 F1 m9 q47 _ h=> ?_;refine h.runv (dH 37 37 _) λI1 F1 n1 h=> ?_;refine ⟨_,rfl,?_⟩;refine h.runv (dH 97 122 _) λI2 F1 n2 h=> ?_;refine ⟨_,rfl,?_⟩;refine h.runv (dH 32 32 _) λI3 F1 n3 h=> ?_;refine ⟨_,rfl,?_⟩;refine h.runv (cg 3 1 2 _) λI4 F1 n4 h=> ?_;refine ⟨_,rfl,?_⟩;refine h.runv (cg 4 3 0 _) λI5 F1 n5 h=> ?_;refine ⟨_,rfl,?_⟩;refine h.runv (cg 2 0 4 _) λI6 F1 n6 h=> ?_;refine ⟨_,rfl,rfl,rfl,rfl,rfl,rfl,rfl,?_⟩;refine h.newG λb54 I7 F1 n7 q54 _ h=> ?_;refine ⟨_,rfl,h.whole1,rfl,rfl,?_⟩;refine h.push0 T (c:=jI.arr (Zj (Y3 (Zc b47 0 Y5)) 8 8) n) rfl (by simp [ak,Y7]) (by omega) λs1 I8 F1 n8 h hl1=> ?_;refine ⟨_,rfl,h.whole1,rfl,rfl,?_⟩;refine h.push0 T (c:=gS.arr (Zj (Y3 (Zc b54 0 Y5)) 6 6) n) rfl (by simp [ak,Y7]) (by omega) λs2 I9 F1 n9 h hl2=> ?_;obtain ⟨ho,-⟩:=h.ownAt (i:=0) rfl;have i89:=aa n8 n9;have i79:=aa n7 i89;have iH:H9.le I9:=aa n1 (aa n2 (aa n3 (aa n4 (aa n5 (aa n6 i79)))));have iG:G.le I9:=aa m1 (aa m2 (aa m3 (aa m4 (aa m5 (aa m6 (aa m7 (aa m8 (aa m9 iH))))))));have hn9:=hn.le (aa lt (aa lG iG));refine ⟨⟨s2,rfl,vs++[jI.arr (Zj (Y3 (Zc b47 0 Y5)) 8 8) n]++[gS.arr (Zj (Y3 (Zc b54 0 Y5)) 6 6) n],?_,?_⟩,aa lF (aa lG (aa iG h.le))⟩
  ·have e:dN=(ln::(vq.take 8).map tkL)++[jI]++[gS]:=rfl;rw [e];have p1:RL I9 (Zj (Y3 (Zc b47 0 Y5)) 8 8) jI.pat:=RL.nds.2 (RdS.new (iH _ _ q47) rfl rfl (W8 _));have p2:RL I9 (Zj (Y3 (Zc b54 0 Y5)) 6 6) gS.pat:=RL.nds.2 (RdS.new (i89 _ _ q54) rfl rfl (W8 _));exact (((hr.le iG).append (.cons (pd p1 hn9) .nil)).append (.cons (pd p2 hn9) .nil)).le h.le
  ·rw [bY,bY,cJ,cJ];exact ho.rd
abbrev cM (YW:List ByteArray):Gr:=⟨[⟨#[65]⟩,⟨#[66]⟩],aK,dN,YW,[],0,[],[]⟩
theorem nc {F:PH} {s:Sl} {YW:List ο} (hs:RL F s YW):ν 46 #[s.v] F λr F'=>(∃c n t,r=Y9 ((cM YW).arr c n t s Zi Zi Zi)/\RL F' c (cM YW).YY/\RL F' n aK.1/\RL F' t dN/\RL F' s YW)/\F.le F':=by
 refine VK ?_;unfold QP;refine (St.start F).new λb2 F1 h=> ?_;refine h.run (ga _) λ_ G1 F1 hr l1 h=> ?_;obtain ⟨w,rfl,hw⟩:=hr;obtain ⟨n,rfl,hn⟩:=hw.out;refine ⟨_,rfl,?_⟩;refine h.new λb3 F2 h=> ?_;refine h.put0 (w':= #[n.v,vi aK.2]) rfl rfl (by simp [ak,Y7]) λF3 h=> ?_;refine ⟨_,rfl,h.whole0,?_,?_⟩
 ·refine h.newG λb5 G2 F4 l2 q _ h=> ?_;refine h.run (oe _) λ_ G3 F5 hr l3 h=> ?_;obtain ⟨t,rfl,ht⟩:=hr;refine ⟨_,rfl,h.whole0,rfl,?_⟩;refine h.put1 (w':=(cM YW).arr (Zj (Y3 (Zc b5 0 Y5)) 2 2) n t s Zi Zi Zi) rfl rfl (by simp [ak,Y7]) λF3 h=> ?_;have l23:=aa l2 l3;exact ⟨_,rfl,h.whole1,⟨_,n,t,rfl,RL.strs.2 (RdS.new (h.le _ _ (l3 _ _ q)) rfl rfl (W8 _)),hn.le (aa l23 h.le),ht.le h.le,hs.le (aa l1 (aa l23 h.le))⟩,aa l1 (aa l23 h.le)⟩
 ·refine h.run (oe _) λ_ G3 F5 hr l3 h=> ?_;obtain ⟨t,rfl,ht⟩:=hr;refine ⟨_,rfl,h.whole0,?_⟩;refine h.newG λb5 G2 F4 l2 q _ h=> ?_;refine ⟨rfl,?_⟩;refine h.put1 (w':=(cM YW).arr (Zj (Y3 (Zc b5 0 Y5)) 2 2) n t s Zi Zi Zi) rfl rfl (by simp [ak,Y7]) λF3 h=> ?_;have l23:=aa l3 l2;exact ⟨_,rfl,h.whole1,⟨_,n,t,rfl,RL.strs.2 (RdS.new (h.le _ _ q) rfl rfl (W8 _)),hn.le (aa l23 h.le),ht.le (aa l2 h.le),hs.le (aa l1 (aa l23 h.le))⟩,aa l1 (aa l23 h.le)⟩
theorem gT (F:PH) {arr:Γ} {k:Nat} (YW:List ο) (ha:arr.toList=YW.map Zg) (hk:YW.length=k) {C:Nat->Nat->Ψ} (kk:∀b0 b1 F',KS F F' b0 b1 (cM YW)->C b0 b1 F'):
  ∀b0,F b0=Y5->atF (F.set b0 (Y4 zG 37)) λF=>∀b3,F b3=Y5->atF (F.set b3 (Y4 arr 9)) λF=>ν 46 #[Y7 (Zj (Y3 (Zc b3 0 Y5)) k k)] F λv F=>∃w:Γ,v=Y9 w/\
   ∀b1,F b1=Y5->atF (F.set b1 (Y4 zG 37)) λF=>au F (Zc b1 0 Y5) 9 w (C b0 b1):=by
 refine (St.start F).new λb0 F1 h=> ?_;refine h.newG λb3 G1 F2 l1 q _ h=> ?_;have hs:RL G1 (Zj (Y3 (Zc b3 0 Y5)) k k) YW:=RL.strs.2 (RdS.new q (by rw [Xz,<- hk,<- Xd (f:=Zg),<- ha];exact Xg) (by rw [Xd];omega) (W8 _));refine h.run (nc hs) λ_ G2 F3 hr l2 h=> ?_;obtain ⟨c,n,t,rfl,h1,h2,h3,h4⟩:=hr;refine ⟨_,rfl,?_⟩;refine h.new λb1 F4 h=> ?_;refine h.put0 (w':=(cM YW).arr c n t (Zj (Y3 (Zc b3 0 Y5)) k k) Zi Zi Zi) rfl rfl (by simp [ak,Y7]) λF5 h=> ?_;have h:=(h.nilOwn 55 13).swap;exact kk _ _ _ ⟨G2,c,n,t,_,Zi,Zi,Zi,[],aa l1 l2,h,.nil,h1,h2,h3,h4,.nil _,.nil _⟩
theorem KS.allv {K F:PH} {b0 b1:Nat} {g:Gr} (h:KS K F b0 b1 g) {C:Nat->Ψ} (k:∀b K' F' n,K.le K'->K' b=Y3 (Y4 #[Y7 n,vi aK.2] 31)->RL K' n aK.1->KS K' F' b0 b1 g->C b F'):
  ν 34 #[Za Y8] F λv F=>∃w:Γ,v=Y9 w/\∀b,F b=Y5->atF (F.set b (Y4 #[.slice Y5 0 0,.int .i64 0] 31)) λF=>au F (Zc b 0 Y5) 2 w (C b):=by
 refine h.run (λG _=>ga G) λ_ K1 F1 hr l1 h=> ?_;obtain ⟨w,rfl,hw⟩:=hr;obtain ⟨n,rfl,hn⟩:=hw.out;refine ⟨_,rfl,?_⟩;obtain ⟨G,c,n',t,s,sp,l,f,vs,h⟩:=h;refine h.st.new λb F2 st=> ?_;refine st.put0 (w':= #[n.v,vi aK.2]) rfl rfl (by simp [ak,Y7]) λF3 st=> ?_;refine st.pinb λG' l2 q st=> ?_;have l3:=aa h.k l2;exact k b G' F3 n (aa l1 l3) q (hn.le l3) ⟨G',c,n',t,s,sp,l,f,vs,am _,st,h.r.le l2,h.c.le l2,h.n.le l2,h.t.le l2,h.s.le l2,h.l.le l2,h.f.le l2⟩
abbrev dq (v:Nat):Dia:=dia (ap2 kN (tv v) (Y0 Y8))
theorem bC {F:PH} {v:Γ} {x:Nat} (hx:x<6) (h:DV F v (dia (tv x))):ν 86 #[Y9 v] F λr F'=>lj (dq x) r F'/\F.le F':=
 (rO h ((Sx.tv (n:=6) hx (by decide)).f2 (Sx.Y0 6 Y8) (by decide))).mono λ_ _ ⟨w,h1,h2,h3⟩=>⟨⟨w,h1,h2⟩,h3⟩
def cG:Gr:={(cM [⟨#[69]⟩]) with YV:=[bE ⟨#[97,100,100]⟩ 0 [⟨Y6,0⟩,⟨Y8,1⟩,⟨Y6,0⟩],bE ⟨#[109,117,108]⟩ 0 [⟨Y6,0⟩,⟨Y8,2⟩,⟨Y6,0⟩],{(bE ⟨#[98,114,97,99,107,101,116]⟩ 0 [⟨Y8,3⟩,⟨Y6,0⟩,⟨Y8,4⟩]) with brk:=Y8},bE ⟨#[110,97,109,101]⟩ 0 [⟨Y8,0⟩],{(bE ⟨#[112,111,119]⟩ 0 [⟨Y6,0⟩,⟨Y8,8⟩,⟨Y6,0⟩]) with cond:=dia (tv 1)}],lvs:=[⟨[4],2,aK⟩,⟨[1],1,aK⟩,⟨[0],1,dq 0⟩]}
def co:Gr:={(cM [⟨#[83]⟩,⟨#[67]⟩]) with YV:=[bE ⟨#[98,111,116,104]⟩ 0 [⟨Y8,5⟩,⟨Y6,1⟩,⟨Y6,0⟩,⟨Y8,6⟩,⟨Y6,0⟩],bE ⟨#[116,104,101,110]⟩ 0 [⟨Y8,5⟩,⟨Y6,1⟩,⟨Y6,0⟩],bE ⟨#[99,97,108,108]⟩ 0 [⟨Y6,1⟩,⟨Y8,7⟩],{(bE ⟨#[98,108,111,99,107]⟩ 0 [⟨Y8,3⟩,⟨Y6,0⟩,⟨Y8,4⟩]) with brk:=Y8},bE ⟨#[119,111,114,100]⟩ 1 [⟨Y8,0⟩]],fils:=[⟨2,0,2,1,0,0,[],dia (tv 0)⟩,⟨5,0,0,0,0,0,[5,6],dia (tv 1)⟩]}
def dm:Gr:={(cM [⟨#[76]⟩,⟨#[73]⟩]) with YV:=[bE ⟨#[101,109,112,116,121]⟩ 0 [],bE ⟨#[109,111,114,101]⟩ 0 [⟨Y6,0⟩,⟨Y6,1⟩],{(bE ⟨#[116,121,112,101]⟩ 1 [⟨Y8,1⟩,⟨Y8,0⟩,⟨Y8,7⟩]) with sco:=⟨Y6,2,1,0,0⟩},{(bE ⟨#[112,111,105,110,116,101,114]⟩ 1 [⟨Y8,0⟩,⟨Y8,2⟩,⟨Y8,0⟩,⟨Y8,7⟩]) with sco:=⟨Y6,3,2,1,2⟩},{(bE ⟨#[112,114,111,100,117,99,116]⟩ 1 [⟨Y8,0⟩,⟨Y8,2⟩,⟨Y8,0⟩,⟨Y8,7⟩]) with sco:=⟨Y6,0,0,1,5⟩,rank:= -1},{(bE ⟨#[105,110,110,101,114]⟩ 1 [⟨Y8,3⟩,⟨Y6,0⟩,⟨Y8,4⟩]) with sco:=⟨Y8,0,0,0,0⟩},{(bE ⟨#[115,116,114,105,99,116]⟩ 1 [⟨Y8,0⟩,⟨Y8,7⟩]) with sco:=⟨Y6,0,0,1,6⟩,cond:=dia (tv 0)}]}
def jJ:Gr:={(cM [⟨#[66]⟩,⟨#[73]⟩]) with YV:=[bE ⟨#[111,110,101]⟩ 0 [⟨Y6,1⟩],{(bE ⟨#[108,105,115,116]⟩ 0 [⟨Y6,0⟩,⟨Y6,1⟩]) with lay:=[⟨2,0,1⟩]},bE ⟨#[119,111,114,100]⟩ 1 [⟨Y8,0⟩],{(bE ⟨#[104,101,97,100]⟩ 1 [⟨Y8,5⟩,⟨Y8,0⟩,⟨Y6,0⟩]) with lay:=[⟨3,0,2⟩,⟨1,2,0⟩]},{(bE ⟨#[108,105,110,101]⟩ 1 [⟨Y8,5⟩,⟨Y6,0⟩]) with lay:=[⟨4,0,1⟩],cond:=dia (tv 0)}]}
def gU:Gr:={(cM [⟨#[83]⟩,⟨#[87]⟩,⟨#[86]⟩]) with YV:=[bE ⟨#[112,97,105,114]⟩ 0 [⟨Y6,1⟩,⟨Y6,2⟩],{(bE ⟨#[115,105,110,103,108,101]⟩ 1 [⟨Y8,0⟩]) with rank:= -1},bE ⟨#[100,111,117,98,108,101]⟩ 1 [⟨Y8,0⟩,⟨Y8,0⟩],bE ⟨#[110,111,110,101]⟩ 2 [],bE ⟨#[110,101,120,116]⟩ 2 [⟨Y8,0⟩,⟨Y6,2⟩],{(bE ⟨#[109,97,114,107]⟩ 2 [⟨Y8,1⟩,⟨Y6,2⟩]) with cond:=dia (tv 1)}],fils:=[⟨3,0,0,0,1,0,[0],dia (tv 0)⟩,⟨4,0,0,0,2,0,[1],dq 1⟩]}
def gV:Gr:={(cM [⟨#[83]⟩,⟨#[79]⟩,⟨#[80]⟩]) with YV:=[bE ⟨#[97,108,108]⟩ 0 [⟨Y6,1⟩,⟨Y8,0⟩,⟨Y6,1⟩,⟨Y6,2⟩],bE ⟨#[110,111]⟩ 1 [],bE ⟨#[121,101,115]⟩ 1 [⟨Y8,1⟩],bE ⟨#[101,110,100]⟩ 2 [],{(bE ⟨#[114,101,115,116]⟩ 2 [⟨Y8,1⟩,⟨Y6,2⟩]) with cond:=dia (tv 0)}]}
theorem lq (F:PH):ν 131 #[] F λr F'=>(∃w,r=Y9 w/\GV F' w dm)/\F.le F':=by refine Q8 ?_;unfold LV;refine gT F [⟨#[76]⟩,⟨#[73]⟩] rfl rfl λb0 b1 F1 h=> ?_;refine h.rule0 (by decide) λF2 h=> ?_;refine h.rule2 (eI 0) (eI 1) (by decide) λF2 h=> ?_;refine h.rule3 (cY 1) (cY 0) (cY 7) (by decide) λF2 h=> ?_;refine h.rule4 (cY 0) (cY 2) (cY 0) (cY 7) (by decide) λF2 h=> ?_;refine h.rule4 (cY 0) (cY 2) (cY 0) (cY 7) (by decide) λF2 h=> ?_;refine h.rule3 (cY 3) (eI 0) (cY 4) (by decide) λF2 h=> ?_;refine h.rule2 (cY 0) (cY 7) (by decide) λF2 h=> ?_;refine h.sco 2 rfl λF2 h=> ?_;refine h.sco 3 rfl λF2 h=> ?_;refine h.sco 4 rfl λF2 h=> ?_;refine h.sco 5 rfl λF2 h=> ?_;refine h.sco 6 rfl λF2 h=> ?_;refine h.rank 4 rfl λF2 h=> ?_;refine h.cnd 6 rfl 0 (by decide) λF2 h=> ?_;exact h.fin (R:=λr F'=>(∃w,r=Y9 w/\GV F' w dm)/\F.le F') λw F' hv hl=>⟨⟨w,rfl,hv⟩,hl⟩
theorem xC (F:PH):ν 132 #[] F λr F'=>(∃w,r=Y9 w/\GV F' w jJ)/\F.le F':=by refine Q9 ?_;unfold LW;refine gT F [⟨#[66]⟩,⟨#[73]⟩] rfl rfl λb0 b1 F1 h=> ?_;refine h.rule1 (eI 1) (by decide) λF2 h=> ?_;refine h.rule2 (eI 0) (eI 1) (by decide) λF2 h=> ?_;refine h.rule1 (cY 0) (by decide) λF2 h=> ?_;refine h.rule3 (cY 5) (cY 0) (eI 0) (by decide) λF2 h=> ?_;refine h.rule2 (cY 5) (eI 0) (by decide) λF2 h=> ?_;refine h.lay1 1 rfl λF2 h=> ?_;refine h.lay2 3 rfl λF2 h=> ?_;refine h.lay1 4 rfl λF2 h=> ?_;refine h.cnd 4 rfl 0 (by decide) λF2 h=> ?_;exact h.fin (R:=λr F'=>(∃w,r=Y9 w/\GV F' w jJ)/\F.le F') λw F' hv hl=>⟨⟨w,rfl,hv⟩,hl⟩
theorem vr (F:PH):ν 134 #[] F λr F'=>(∃w,r=Y9 w/\GV F' w gV)/\F.le F':=by refine Rb ?_;unfold LY;refine gT F [⟨#[83]⟩,⟨#[79]⟩,⟨#[80]⟩] rfl rfl λb0 b1 F1 h=> ?_;refine h.rule4 (eI 1) (cY 0) (eI 1) (eI 2) (by decide) λF2 h=> ?_;refine h.rule0 (by decide) λF2 h=> ?_;refine h.rule1 (cY 1) (by decide) λF2 h=> ?_;refine h.rule0 (by decide) λF2 h=> ?_;refine h.rule2 (cY 1) (eI 2) (by decide) λF2 h=> ?_;refine h.cnd 4 rfl 0 (by decide) λF2 h=> ?_;exact h.fin (R:=λr F'=>(∃w,r=Y9 w/\GV F' w gV)/\F.le F') λw F' hv hl=>⟨⟨w,rfl,hv⟩,hl⟩
theorem eV {F:PH} {b:Nat} {e:TypeId} {x:Int} (q:F b=Y3 (Y4 #[vi x] e)):RL F (Zj (Y3 (Zc b 0 Y5)) 1 1) [x]:=RL.ints.2 (RdS.new q rfl rfl (W8 _))
theorem pe {F:PH} {x:Fi} {t n:Sl} (ht:RL F t x.YX) (hn:RL F n x.cond.1):Mem.rep F x (x.arr t n):=⟨t,n,rfl,ht,hn⟩
theorem fQ {F:PH} {x:Lv} {p n:Sl} (hp:RL F p x.ps) (hn:RL F n x.cond.1):Mem.rep F x (x.arr p n):=⟨p,n,rfl,hp,hn⟩
theorem vu (F:PH):ν 133 #[] F λr F'=>(∃w,r=Y9 w/\GV F' w gU)/\F.le F':=by refine Ra ?_;unfold LX;refine gT F [⟨#[83]⟩,⟨#[87]⟩,⟨#[86]⟩] rfl rfl λb0 b1 F1 h=> ?_;refine h.rule2 (eI 1) (eI 2) (by decide) λF2 h=> ?_;refine h.rule1 (cY 0) (by decide) λF2 h=> ?_;refine h.rule2 (cY 0) (cY 0) (by decide) λF2 h=> ?_;refine h.rule0 (by decide) λF2 h=> ?_;refine h.rule2 (cY 0) (eI 2) (by decide) λF2 h=> ?_;refine h.rule2 (cY 1) (eI 2) (by decide) λF2 h=> ?_;refine h.rank 1 rfl λF2 h=> ?_;refine h.cnd 5 rfl 1 (by decide) λF2 h=> ?_;refine h.new λb64 K3 F3 l3 q64 h=> ?_;refine h.run (λG _=>aL 0 (by decide) G) λ_ K4 F4 hr l4 h=> ?_;obtain ⟨_,rfl,hw⟩:=hr;obtain ⟨m,rfl,hm⟩:=hw.out;refine ⟨_,rfl,rfl,?_⟩;refine h.new λb67 K5 F5 l5 q67 h=> ?_;refine h.run (λG _=>aL 1 (by decide) G) λ_ K6 F6 hr l6 h=> ?_;obtain ⟨_,rfl,hv⟩:=hr;refine ⟨_,rfl,?_⟩;refine h.run (λG hl=>bC (by decide) (hv.le hl)) λ_ K7 F7 hr l7 h=> ?_;obtain ⟨_,rfl,hw⟩:=hr;obtain ⟨m',rfl,hm'⟩:=hw.out;refine ⟨_,rfl,rfl,rfl,rfl,?_⟩;refine h.new λb71 K8 F8 l8 q71 h=> ?_;have l58:=aa l6 (aa l7 l8);have l48:=aa l5 l58;refine h.fils (x:=[⟨3,0,0,0,1,0,[0],dia (tv 0)⟩,⟨4,0,0,0,2,0,[1],dq 1⟩]) ⟨[_,_],.cons (pe (eV (l48 _ _ (l4 _ _ q64))) (hm.le l48)) (.cons (pe (eV (l58 _ _ q67)) (hm'.le l8)) .nil),RdS.new q71 (by kernel_rfl) rfl (W8 _)⟩ λF9 h=> ?_;exact h.fin (R:=λr F'=>(∃w,r=Y9 w/\GV F' w gU)/\F.le F') λw F' hv hl=>⟨⟨w,rfl,hv⟩,aa l3 (aa l4 (aa l48 hl))⟩
def vv:Gr:={(cM [⟨#[83]⟩,⟨#[67]⟩]) with YV:=co.YV}
theorem By {K F F0:PH} {b0 b1 b61 b64:Nat} {g:Gr} {c n t s sp l m v:Sl} {vs:List Γ} (hF:F0.le K) (hg:{g with fils:=[⟨2,0,2,1,0,0,[],dia (tv 0)⟩,⟨5,0,0,0,0,0,[5,6],dia (tv 1)⟩]}=co)
  (st:St K F [pt b64 (Y4 (wr (wr (#[Zf .i64 0,.int .i64 0,.int .i64 0,.int .i64 0,.int .i64 0,.int .i64 0,.slice Y5 0 0,.slice Y5 0 0,.int .i64 0,.int .i64 0,.int .i64 0,.int .i64 0,.int .i64 0,.int .i64 0,.int .i64 0,.slice Y5 0 0,.slice Y5 0 0,.int .i64 0]:Γ) 0 (wr (Zl (Zl (Zl (#[Zf .i64 0,.int .i64 0,.int .i64 0,.int .i64 0,.int .i64 0,.int .i64 0,.slice Y5 0 0,.slice Y5 0 0,.int .i64 0]:Γ) 0 (vi 2)) 2 (vi 2)) 3 (vi 1)) 7 (#[m.v,vi (dia (tv 0)).2]:Γ).toList).toList) 9 (wr (Zl (Zl (#[Zf .i64 0,.int .i64 0,.int .i64 0,.int .i64 0,.int .i64 0,.int .i64 0,.slice Y5 0 0,.slice Y5 0 0,.int .i64 0]:Γ) 0 (vi 5)) 6 (Y7 (Zj (Y3 (Zc b61 0 Y5)) 2 2))) 7 (#[v.v,vi aK.2]:Γ).toList).toList) 156),pt b1 (Y4 (g.arr c n t s sp l (Zj (Y3 (Zc b64 0 Y5)) 2 2)) 37),own sp 55 13 (cat vs),pt b0 (Y4 zG 37)])
  (hr:cZ K g.YV vs) (hc:RL K c g.YY) (hn:RL K n g.fam.1) (ht:RL K t g.YX) (hs:RL K s g.YW) (hl:RL K l g.lvs) (hm:RL K m (dia (tv 0)).1) (q61:RL K (Zj (Y3 (Zc b61 0 Y5)) 2 2) [(5:Int),6]):
  pm b0 b1 (λr F'=>(∃w,r=Y9 w/\GV F' w co)/\F0.le F') F:=by
 unfold pm;refine ⟨_,st.ld1 rfl,?_⟩;refine st.run (aL 1 (by decide) _) λ_ K1 F1 hr1 l1 st=> ?_;obtain ⟨_,rfl,hw⟩:=hr1;obtain ⟨m1,rfl,hm1⟩:=hw.out;refine ⟨_,rfl,st.ld1 rfl,_,rfl,by decide,(by show (1:Int)<2;decide),?_⟩;simp only [aE];refine st.putR0 (o:=16) (w':= #[vi 2,vi 0,vi 2,vi 1,vi 0,vi 0,Y7 Zi,m.v,vi (dia (tv 0)).2,vi 5,vi 0,vi 0,vi 0,vi 0,vi 0,Y7 (Zj (Y3 (Zc b61 0 Y5)) 2 2),m1.v,vi (dia (tv 1)).2]) rfl (by simp [ak,Y7]) (by rw [d7,d7];show 16+2<=18;decide) (by kernel_rfl) λF2 st=> ?_;obtain ⟨K2,l2,⟨H,hA,hH⟩,st⟩:=st.pin;have q:=hH _ _ hA;have l12:=aa l1 l2;have hf:RL K2 (Zj (Y3 (Zc b64 0 Y5)) 2 2) [(⟨2,0,2,1,0,0,[],dia (tv 0)⟩:Fi),⟨5,0,0,0,0,0,[5,6],dia (tv 1)⟩]:=
  ⟨[_,_],.cons (pe (t:=Zi) (.nil _) (hm.le l12)) (.cons (pe (q61.le l12) (hm1.le l2)) .nil),RdS.new q (by kernel_rfl) rfl (W8 _)⟩
 have h:KS K2 F2 b0 b1 co:=by rw [<- hg];exact ⟨K2,c,n,t,s,sp,l,_,vs,am _,st,hr.le l12,hc.le l12,hn.le l12,ht.le l12,hs.le l12,hl.le l12,hf⟩
 exact h.fin (R:=λr F'=>(∃w,r=Y9 w/\GV F' w co)/\F0.le F') λw F' hv hl=>⟨⟨w,rfl,hv⟩,aa hF (aa l12 hl)⟩
theorem oP (F:PH):ν 130 #[] F λr F'=>(∃w,r=Y9 w/\GV F' w co)/\F.le F':=by
 refine Q7 ?_;unfold LU;refine gT F [⟨#[83]⟩,⟨#[67]⟩] rfl rfl λb0 b1 F1 h=> ?_;refine h.allv λb2 K1 F2 n l1 q hn h=> ?_;refine h.rule5 (cY 5) (eI 1) (eI 0) (cY 6) (eI 0) (by decide) λF2 h=> ?_;refine h.rule3 (cY 5) (eI 1) (eI 0) (by decide) λF2 h=> ?_;refine h.rule2 (eI 1) (cY 7) (by decide) λF2 h=> ?_;refine h.rule3 (cY 3) (eI 0) (cY 4) (by decide) λF2 h=> ?_;refine h.rule1 (cY 0) (by decide) λF2 h=> ?_;refine h.brk 3 rfl λF2 h=> ?_;refine ⟨_,rfl,ac (h.le _ _ q),?_⟩;obtain ⟨G,c,n',t,s,sp,l,f,vs,h⟩:=h;have hn:=hn.le h.k;have l1:=aa l1 h.k;refine ⟨?_,?_⟩
 ·refine h.st.run (aL 0 (by decide) _) λ_ K4 F4 hr l4 st=> ?_;obtain ⟨_,rfl,hw⟩:=hr;obtain ⟨m,rfl,hm⟩:=hw.out;refine ⟨_,rfl,ac (st.le _ _ (l4 _ _ (h.k _ _ q))),rfl,?_⟩;refine st.newG λb61 K5 F5 l5 q61 _ st=> ?_;refine ⟨rfl,rfl,rfl,?_⟩;refine st.new λb64 F6 st=> ?_;refine st.set1 (w':=(vv.arr c n' t s sp l (Zj (Y3 (Zc b64 0 Y5)) 2 2))) (Zn rfl) rfl λF7 st=> ?_;have l45:=aa l4 l5;exact By (g:=vv) (aa l1 l45) rfl st (h.r.le l45) (h.c.le l45) (h.n.le l45) (h.t.le l45) (h.s.le l45) (h.l.le l45) (hm.le l5) (RL.ints.2 (RdS.new q61 rfl rfl (W8 _)))
 ·refine h.st.newG λb61 K5 F5 l5 q61 _ st=> ?_;refine ⟨rfl,?_⟩;refine st.run (aL 0 (by decide) _) λ_ K4 F4 hr l4 st=> ?_;obtain ⟨_,rfl,hw⟩:=hr;obtain ⟨m,rfl,hm⟩:=hw.out;refine ⟨_,rfl,ac (st.le _ _ (l4 _ _ (l5 _ _ (h.k _ _ q)))),rfl,rfl,rfl,?_⟩;refine st.new λb64 F6 st=> ?_;refine st.set1 (w':=(vv.arr c n' t s sp l (Zj (Y3 (Zc b64 0 Y5)) 2 2))) (Zn rfl) rfl λF7 st=> ?_;have l45:=aa l5 l4;exact By (g:=vv) (aa l1 l45) rfl st (h.r.le l45) (h.c.le l45) (h.n.le l45) (h.t.le l45) (h.s.le l45) (h.l.le l45) hm ((RL.ints.2 (RdS.new q61 rfl rfl (W8 _))).le l4)
def LD:Gr:={cG with lvs:=[]}
structure EK (K0 K F:PH) (b0 b1 b2:Nat) (n:Sl):Prop where
 h:KS K F b0 b1 LD
 l:K0.le K
 q:K b2=Y3 (Y4 #[Y7 n,vi aK.2] 31)
 n:RL K n aK.1
theorem EK.up {K0 K F K' F':PH} {b0 b1 b2:Nat} {n:Sl} (H:EK K0 K F b0 b1 b2 n) (l:K.le K') (h:KS K' F' b0 b1 LD):EK K0 K' F' b0 b1 b2 n:=⟨h,aa H.l l,l _ _ H.q,H.n.le l⟩
theorem EK.row {K0 K F:PH} {b0 b1 b2:Nat} {n:Sl} (H:EK K0 K F b0 b1 b2 n):F.row (Zc b2 0 Y5) #[Y7 n,vi aK.2]:=ac (H.h.le _ _ H.q)
section
variable {K0 K F:PH} {b0 b1 b2:Nat} {n:Sl}
abbrev cD (K0:PH):VR:=λr F'=>(∃w,r=Y9 w/\GV F' w cG)/\K0.le F'
theorem N7 (H:EK K0 K F b0 b1 b2 n) {b73:Nat} (hr:RL K (Zj (Y3 (Zc b73 0 Y5)) 3 3) cG.lvs):lC b1 b73 b0 (cD K0) F:=by unfold lC;refine H.h.lvs hr λF9 h=> ?_;unfold BU;exact h.fin (R:=cD K0) λw F' hv hl=>⟨⟨w,rfl,hv⟩,aa H.l hl⟩
theorem gW (H:EK K0 K F b0 b1 b2 n) {m71:Sl} (h71:RL K m71 (dq 0).1) {b63:Nat} (q63:K b63=Y3 (Y4 #[vi 4] 3)) {b66:Nat} (q66:K b66=Y3 (Y4 #[vi 1] 3)) {b69:Nat} (q69:K b69=Y3 (Y4 #[vi 0] 3)):gy #[Y7 m71,vi (dq 0).2] b63 #[Y7 n,vi aK.2] b66 #[Y7 n,vi aK.2] b69 b1 b0 (cD K0) F:=by unfold gy;refine ⟨rfl,?_⟩;refine ⟨rfl,?_⟩;refine ⟨rfl,?_⟩;refine ⟨rfl,?_⟩;refine H.h.new λb73 K F l q73 h=> ?_;have H:=H.up l h;have h71:=h71.le l;have q63:=l _ _ q63;have q66:=l _ _ q66;have q69:=l _ _ q69;exact N7 H ⟨[_,_,_],.cons (fQ (eV q63) H.n) (.cons (fQ (eV q66) H.n) (.cons (fQ (eV q69) h71) .nil)),RdS.new q73 (by kernel_rfl) rfl (W8 _)⟩
theorem gX (H:EK K0 K F b0 b1 b2 n) {m70:Sl} (h70:RL K m70 (dia (tv 0)).1) {b63:Nat} (q63:K b63=Y3 (Y4 #[vi 4] 3)) {b66:Nat} (q66:K b66=Y3 (Y4 #[vi 1] 3)) {b69:Nat} (q69:K b69=Y3 (Y4 #[vi 0] 3)):gz #[Y7 m70,vi (dia (tv 0)).2] b2 #[Y7 n,vi aK.2] #[Y7 n,vi aK.2] b63 b66 b69 b1 b0 (cD K0) F:=by unfold gz;refine H.h.run (λG hl=>bC (x:=0) (by decide) ((DV.mk h70).le hl)) λ_ K F hr l h=> ?_;have H:=H.up l h;have h70:=h70.le l;have q63:=l _ _ q63;have q66:=l _ _ q66;have q69:=l _ _ q69;obtain ⟨_,rfl,hw⟩:=hr;obtain ⟨m71,rfl,h71⟩:=hw.out;refine ⟨_,rfl,?_⟩;refine ⟨H.row,?_⟩;refine ⟨H.row,?_⟩;exact gW H h71 q63 q66 q69
theorem xD (H:EK K0 K F b0 b1 b2 n) {b63:Nat} (q63:K b63=Y3 (Y4 #[vi 4] 3)) {b66:Nat} (q66:K b66=Y3 (Y4 #[vi 1] 3)) {b69:Nat} (q69:K b69=Y3 (Y4 #[vi 0] 3)):pj b2 #[Y7 n,vi aK.2] #[Y7 n,vi aK.2] b63 b66 b69 b1 b0 (cD K0) F:=by unfold pj;refine H.h.run (λG _=>aL 0 (by decide) G) λ_ K F hr l h=> ?_;have H:=H.up l h;have q63:=l _ _ q63;have q66:=l _ _ q66;have q69:=l _ _ q69;obtain ⟨_,rfl,hw⟩:=hr;obtain ⟨m70,rfl,h70⟩:=hw.out;refine ⟨_,rfl,?_⟩;refine ⟨H.row,?_⟩;refine ⟨H.row,?_⟩;exact gX H h70 q63 q66 q69
theorem qJ (H:EK K0 K F b0 b1 b2 n) {m71:Sl} (h71:RL K m71 (dq 0).1) {b63:Nat} (q63:K b63=Y3 (Y4 #[vi 4] 3)) {b66:Nat} (q66:K b66=Y3 (Y4 #[vi 1] 3)):lH #[Y7 m71,vi (dq 0).2] b63 #[Y7 n,vi aK.2] b66 #[Y7 n,vi aK.2] b1 b0 (cD K0) F:=by unfold lH;refine H.h.new λb69 K F l q69 h=> ?_;have H:=H.up l h;have h71:=h71.le l;have q63:=l _ _ q63;have q66:=l _ _ q66;exact gW H h71 q63 q66 q69
theorem xE (H:EK K0 K F b0 b1 b2 n) {m70:Sl} (h70:RL K m70 (dia (tv 0)).1) {b63:Nat} (q63:K b63=Y3 (Y4 #[vi 4] 3)) {b66:Nat} (q66:K b66=Y3 (Y4 #[vi 1] 3)):pk #[Y7 m70,vi (dia (tv 0)).2] b2 #[Y7 n,vi aK.2] #[Y7 n,vi aK.2] b63 b66 b1 b0 (cD K0) F:=by
 unfold pk;refine ⟨?_,?_⟩
 ·refine H.h.new λb69 K F l q69 h=> ?_;have H:=H.up l h;have h70:=h70.le l;have q63:=l _ _ q63;have q66:=l _ _ q66;exact gX H h70 q63 q66 q69
 ·refine H.h.run (λG hl=>bC (x:=0) (by decide) ((DV.mk h70).le hl)) λ_ K F hr l h=> ?_;have H:=H.up l h;have h70:=h70.le l;have q63:=l _ _ q63;have q66:=l _ _ q66;obtain ⟨_,rfl,hw⟩:=hr;obtain ⟨m71,rfl,h71⟩:=hw.out;refine ⟨_,rfl,?_⟩;refine ⟨H.row,?_⟩;refine ⟨H.row,?_⟩;exact qJ H h71 q63 q66
theorem Fz (H:EK K0 K F b0 b1 b2 n) {b63:Nat} (q63:K b63=Y3 (Y4 #[vi 4] 3)) {b66:Nat} (q66:K b66=Y3 (Y4 #[vi 1] 3)):vS #[Y7 n,vi aK.2] b2 #[Y7 n,vi aK.2] b63 b66 b1 b0 (cD K0) F:=by
 unfold vS;refine ⟨rfl,?_⟩;refine ⟨?_,?_⟩
 ·refine H.h.new λb69 K F l q69 h=> ?_;have H:=H.up l h;have q63:=l _ _ q63;have q66:=l _ _ q66;exact xD H q63 q66 q69
 ·refine H.h.run (λG _=>aL 0 (by decide) G) λ_ K F hr l h=> ?_;have H:=H.up l h;have q63:=l _ _ q63;have q66:=l _ _ q66;obtain ⟨_,rfl,hw⟩:=hr;obtain ⟨m70,rfl,h70⟩:=hw.out;refine ⟨_,rfl,?_⟩;refine ⟨H.row,?_⟩;refine ⟨H.row,?_⟩;exact xE H h70 q63 q66
theorem tN (H:EK K0 K F b0 b1 b2 n) {b63:Nat} (q63:K b63=Y3 (Y4 #[vi 4] 3)) {b66:Nat} (q66:K b66=Y3 (Y4 #[vi 1] 3)) {b69:Nat} (q69:K b69=Y3 (Y4 #[vi 0] 3)):lI #[Y7 n,vi aK.2] b2 #[Y7 n,vi aK.2] b63 b66 b69 b1 b0 (cD K0) F:=by unfold lI;refine ⟨rfl,?_⟩;refine H.h.run (λG _=>aL 0 (by decide) G) λ_ K F hr l h=> ?_;have H:=H.up l h;have q63:=l _ _ q63;have q66:=l _ _ q66;have q69:=l _ _ q69;obtain ⟨_,rfl,hw⟩:=hr;obtain ⟨m70,rfl,h70⟩:=hw.out;refine ⟨_,rfl,?_⟩;refine ⟨H.row,?_⟩;refine ⟨H.row,?_⟩;exact gX H h70 q63 q66 q69
theorem tO (H:EK K0 K F b0 b1 b2 n) {m70:Sl} (h70:RL K m70 (dia (tv 0)).1) {b63:Nat} (q63:K b63=Y3 (Y4 #[vi 4] 3)) {b66:Nat} (q66:K b66=Y3 (Y4 #[vi 1] 3)) {b69:Nat} (q69:K b69=Y3 (Y4 #[vi 0] 3)):lJ #[Y7 n,vi aK.2] #[Y7 m70,vi (dia (tv 0)).2] b2 #[Y7 n,vi aK.2] b63 b66 b69 b1 b0 (cD K0) F:=by unfold lJ;refine ⟨rfl,?_⟩;refine H.h.run (λG hl=>bC (x:=0) (by decide) ((DV.mk h70).le hl)) λ_ K F hr l h=> ?_;have H:=H.up l h;have h70:=h70.le l;have q63:=l _ _ q63;have q66:=l _ _ q66;have q69:=l _ _ q69;obtain ⟨_,rfl,hw⟩:=hr;obtain ⟨m71,rfl,h71⟩:=hw.out;refine ⟨_,rfl,?_⟩;refine ⟨H.row,?_⟩;refine ⟨H.row,?_⟩;exact gW H h71 q63 q66 q69
theorem tP (H:EK K0 K F b0 b1 b2 n) {b63:Nat} (q63:K b63=Y3 (Y4 #[vi 4] 3)) {b66:Nat} (q66:K b66=Y3 (Y4 #[vi 1] 3)) {b69:Nat} (q69:K b69=Y3 (Y4 #[vi 0] 3)) {m71:Sl} (h71:RL K m71 (dq 0).1):lK #[Y7 n,vi aK.2] b63 #[Y7 n,vi aK.2] b66 b69 #[Y7 m71,vi (dq 0).2] b1 b0 (cD K0) F:=by unfold lK;refine ⟨rfl,?_⟩;refine ⟨rfl,?_⟩;refine ⟨rfl,?_⟩;refine ⟨rfl,?_⟩;refine H.h.new λb73 K F l q73 h=> ?_;have H:=H.up l h;have q63:=l _ _ q63;have q66:=l _ _ q66;have q69:=l _ _ q69;have h71:=h71.le l;exact N7 H ⟨[_,_,_],.cons (fQ (eV q63) H.n) (.cons (fQ (eV q66) H.n) (.cons (fQ (eV q69) h71) .nil)),RdS.new q73 (by kernel_rfl) rfl (W8 _)⟩
theorem jK (H:EK K0 K F b0 b1 b2 n) {m71:Sl} (h71:RL K m71 (dq 0).1) {b63:Nat} (q63:K b63=Y3 (Y4 #[vi 4] 3)) {b69:Nat} (q69:K b69=Y3 (Y4 #[vi 0] 3)):hY #[Y7 m71,vi (dq 0).2] #[Y7 n,vi aK.2] b63 #[Y7 n,vi aK.2] b69 b1 b0 (cD K0) F:=by unfold hY;refine ⟨rfl,?_⟩;refine H.h.new λb66 K F l q66 h=> ?_;have H:=H.up l h;have h71:=h71.le l;have q63:=l _ _ q63;have q69:=l _ _ q69;exact tP H q63 q66 q69 h71
theorem jL (H:EK K0 K F b0 b1 b2 n) {m70:Sl} (h70:RL K m70 (dia (tv 0)).1) {b63:Nat} (q63:K b63=Y3 (Y4 #[vi 4] 3)) {b69:Nat} (q69:K b69=Y3 (Y4 #[vi 0] 3)):ia #[Y7 n,vi aK.2] #[Y7 m70,vi (dia (tv 0)).2] b2 #[Y7 n,vi aK.2] b63 b69 b1 b0 (cD K0) F:=by
 unfold ia;refine ⟨?_,?_⟩
 ·refine H.h.new λb66 K F l q66 h=> ?_;have H:=H.up l h;have h70:=h70.le l;have q63:=l _ _ q63;have q69:=l _ _ q69;exact tO H h70 q63 q66 q69
 ·refine H.h.run (λG hl=>bC (x:=0) (by decide) ((DV.mk h70).le hl)) λ_ K F hr l h=> ?_;have H:=H.up l h;have h70:=h70.le l;have q63:=l _ _ q63;have q69:=l _ _ q69;obtain ⟨_,rfl,hw⟩:=hr;obtain ⟨m71,rfl,h71⟩:=hw.out;refine ⟨_,rfl,?_⟩;refine ⟨H.row,?_⟩;refine ⟨H.row,?_⟩;exact jK H h71 q63 q69
theorem Dy (H:EK K0 K F b0 b1 b2 n) {b63:Nat} (q63:K b63=Y3 (Y4 #[vi 4] 3)) {b69:Nat} (q69:K b69=Y3 (Y4 #[vi 0] 3)):ri #[Y7 n,vi aK.2] b2 #[Y7 n,vi aK.2] b63 b69 b1 b0 (cD K0) F:=by
 unfold ri;refine ⟨?_,?_⟩
 ·refine H.h.new λb66 K F l q66 h=> ?_;have H:=H.up l h;have q63:=l _ _ q63;have q69:=l _ _ q69;exact tN H q63 q66 q69
 ·refine H.h.run (λG _=>aL 0 (by decide) G) λ_ K F hr l h=> ?_;have H:=H.up l h;have q63:=l _ _ q63;have q69:=l _ _ q69;obtain ⟨_,rfl,hw⟩:=hr;obtain ⟨m70,rfl,h70⟩:=hw.out;refine ⟨_,rfl,?_⟩;refine ⟨H.row,?_⟩;refine ⟨H.row,?_⟩;exact jL H h70 q63 q69
theorem tQ (H:EK K0 K F b0 b1 b2 n) {m70:Sl} (h70:RL K m70 (dia (tv 0)).1) {b63:Nat} (q63:K b63=Y3 (Y4 #[vi 4] 3)) {b66:Nat} (q66:K b66=Y3 (Y4 #[vi 1] 3)):lL #[Y7 n,vi aK.2] #[Y7 m70,vi (dia (tv 0)).2] b2 #[Y7 n,vi aK.2] b63 b66 b1 b0 (cD K0) F:=by
 unfold lL;refine ⟨rfl,?_⟩;refine ⟨?_,?_⟩
 ·refine H.h.new λb69 K F l q69 h=> ?_;have H:=H.up l h;have h70:=h70.le l;have q63:=l _ _ q63;have q66:=l _ _ q66;exact gX H h70 q63 q66 q69
 ·refine H.h.run (λG hl=>bC (x:=0) (by decide) ((DV.mk h70).le hl)) λ_ K F hr l h=> ?_;have H:=H.up l h;have h70:=h70.le l;have q63:=l _ _ q63;have q66:=l _ _ q66;obtain ⟨_,rfl,hw⟩:=hr;obtain ⟨m71,rfl,h71⟩:=hw.out;refine ⟨_,rfl,?_⟩;refine ⟨H.row,?_⟩;refine ⟨H.row,?_⟩;exact qJ H h71 q63 q66
theorem tR (H:EK K0 K F b0 b1 b2 n) {m71:Sl} (h71:RL K m71 (dq 0).1) {b63:Nat} (q63:K b63=Y3 (Y4 #[vi 4] 3)) {b66:Nat} (q66:K b66=Y3 (Y4 #[vi 1] 3)):lM #[Y7 n,vi aK.2] #[Y7 m71,vi (dq 0).2] b63 #[Y7 n,vi aK.2] b66 b1 b0 (cD K0) F:=by unfold lM;refine ⟨rfl,?_⟩;refine H.h.new λb69 K F l q69 h=> ?_;have H:=H.up l h;have h71:=h71.le l;have q63:=l _ _ q63;have q66:=l _ _ q66;exact gW H h71 q63 q66 q69
theorem tS (H:EK K0 K F b0 b1 b2 n) {m71:Sl} (h71:RL K m71 (dq 0).1) {b63:Nat} (q63:K b63=Y3 (Y4 #[vi 4] 3)):lO #[Y7 n,vi aK.2] #[Y7 m71,vi (dq 0).2] b63 #[Y7 n,vi aK.2] b1 b0 (cD K0) F:=by
 unfold lO;refine ⟨?_,?_⟩
 ·refine H.h.new λb66 K F l q66 h=> ?_;have H:=H.up l h;have h71:=h71.le l;have q63:=l _ _ q63;exact tR H h71 q63 q66
 ·refine H.h.new λb69 K F l q69 h=> ?_;have H:=H.up l h;have h71:=h71.le l;have q63:=l _ _ q63;exact jK H h71 q63 q69
theorem Dz (H:EK K0 K F b0 b1 b2 n) {m70:Sl} (h70:RL K m70 (dia (tv 0)).1) {b63:Nat} (q63:K b63=Y3 (Y4 #[vi 4] 3)):rj #[Y7 n,vi aK.2] #[Y7 m70,vi (dia (tv 0)).2] b2 #[Y7 n,vi aK.2] b63 b1 b0 (cD K0) F:=by
 unfold rj;refine ⟨?_,?_,?_⟩
 ·refine H.h.new λb66 K F l q66 h=> ?_;have H:=H.up l h;have h70:=h70.le l;have q63:=l _ _ q63;exact tQ H h70 q63 q66
 ·refine H.h.new λb69 K F l q69 h=> ?_;have H:=H.up l h;have h70:=h70.le l;have q63:=l _ _ q63;exact jL H h70 q63 q69
 ·refine H.h.run (λG hl=>bC (x:=0) (by decide) ((DV.mk h70).le hl)) λ_ K F hr l h=> ?_;have H:=H.up l h;have h70:=h70.le l;have q63:=l _ _ q63;obtain ⟨_,rfl,hw⟩:=hr;obtain ⟨m71,rfl,h71⟩:=hw.out;refine ⟨_,rfl,?_⟩;refine ⟨H.row,?_⟩;refine ⟨H.row,?_⟩;exact tS H h71 q63
theorem FA (H:EK K0 K F b0 b1 b2 n) {b63:Nat} (q63:K b63=Y3 (Y4 #[vi 4] 3)):vT #[Y7 n,vi aK.2] #[Y7 n,vi aK.2] b2 b63 b1 b0 (cD K0) F:=by
 unfold vT;refine ⟨rfl,?_⟩;refine ⟨?_,?_,?_⟩
 ·refine H.h.new λb66 K F l q66 h=> ?_;have H:=H.up l h;have q63:=l _ _ q63;exact Fz H q63 q66
 ·refine H.h.new λb69 K F l q69 h=> ?_;have H:=H.up l h;have q63:=l _ _ q63;exact Dy H q63 q69
 ·refine H.h.run (λG _=>aL 0 (by decide) G) λ_ K F hr l h=> ?_;have H:=H.up l h;have q63:=l _ _ q63;obtain ⟨_,rfl,hw⟩:=hr;obtain ⟨m70,rfl,h70⟩:=hw.out;refine ⟨_,rfl,?_⟩;refine ⟨H.row,?_⟩;refine ⟨H.row,?_⟩;exact Dz H h70 q63
theorem DA (H:EK K0 K F b0 b1 b2 n) {b63:Nat} (q63:K b63=Y3 (Y4 #[vi 4] 3)) {b66:Nat} (q66:K b66=Y3 (Y4 #[vi 1] 3)):rk #[Y7 n,vi aK.2] b2 #[Y7 n,vi aK.2] b63 b66 b1 b0 (cD K0) F:=by
 unfold rk;refine ⟨rfl,?_⟩;refine ⟨?_,?_⟩
 ·refine H.h.new λb69 K F l q69 h=> ?_;have H:=H.up l h;have q63:=l _ _ q63;have q66:=l _ _ q66;exact xD H q63 q66 q69
 ·refine H.h.run (λG _=>aL 0 (by decide) G) λ_ K F hr l h=> ?_;have H:=H.up l h;have q63:=l _ _ q63;have q66:=l _ _ q66;obtain ⟨_,rfl,hw⟩:=hr;obtain ⟨m70,rfl,h70⟩:=hw.out;refine ⟨_,rfl,?_⟩;refine ⟨H.row,?_⟩;refine ⟨H.row,?_⟩;exact xE H h70 q63 q66
theorem tT (H:EK K0 K F b0 b1 b2 n) {b63:Nat} (q63:K b63=Y3 (Y4 #[vi 4] 3)) {b66:Nat} (q66:K b66=Y3 (Y4 #[vi 1] 3)) {b69:Nat} (q69:K b69=Y3 (Y4 #[vi 0] 3)):lP #[Y7 n,vi aK.2] b2 #[Y7 n,vi aK.2] b63 b66 b69 b1 b0 (cD K0) F:=by unfold lP;refine ⟨rfl,?_⟩;refine H.h.run (λG _=>aL 0 (by decide) G) λ_ K F hr l h=> ?_;have H:=H.up l h;have q63:=l _ _ q63;have q66:=l _ _ q66;have q69:=l _ _ q69;obtain ⟨_,rfl,hw⟩:=hr;obtain ⟨m70,rfl,h70⟩:=hw.out;refine ⟨_,rfl,?_⟩;refine ⟨H.row,?_⟩;refine ⟨H.row,?_⟩;exact gX H h70 q63 q66 q69
theorem tU (H:EK K0 K F b0 b1 b2 n) {m70:Sl} (h70:RL K m70 (dia (tv 0)).1) {b63:Nat} (q63:K b63=Y3 (Y4 #[vi 4] 3)) {b66:Nat} (q66:K b66=Y3 (Y4 #[vi 1] 3)) {b69:Nat} (q69:K b69=Y3 (Y4 #[vi 0] 3)):lQ #[Y7 n,vi aK.2] #[Y7 m70,vi (dia (tv 0)).2] b2 #[Y7 n,vi aK.2] b63 b66 b69 b1 b0 (cD K0) F:=by unfold lQ;refine ⟨rfl,?_⟩;refine H.h.run (λG hl=>bC (x:=0) (by decide) ((DV.mk h70).le hl)) λ_ K F hr l h=> ?_;have H:=H.up l h;have h70:=h70.le l;have q63:=l _ _ q63;have q66:=l _ _ q66;have q69:=l _ _ q69;obtain ⟨_,rfl,hw⟩:=hr;obtain ⟨m71,rfl,h71⟩:=hw.out;refine ⟨_,rfl,?_⟩;refine ⟨H.row,?_⟩;refine ⟨H.row,?_⟩;exact gW H h71 q63 q66 q69
theorem tV (H:EK K0 K F b0 b1 b2 n) {b63:Nat} (q63:K b63=Y3 (Y4 #[vi 4] 3)) {b66:Nat} (q66:K b66=Y3 (Y4 #[vi 1] 3)) {b69:Nat} (q69:K b69=Y3 (Y4 #[vi 0] 3)) {m71:Sl} (h71:RL K m71 (dq 0).1):lR #[Y7 n,vi aK.2] b63 b66 #[Y7 n,vi aK.2] b69 #[Y7 m71,vi (dq 0).2] b1 b0 (cD K0) F:=by unfold lR;refine ⟨rfl,?_⟩;refine ⟨rfl,?_⟩;refine ⟨rfl,?_⟩;refine ⟨rfl,?_⟩;refine H.h.new λb73 K F l q73 h=> ?_;have H:=H.up l h;have q63:=l _ _ q63;have q66:=l _ _ q66;have q69:=l _ _ q69;have h71:=h71.le l;exact N7 H ⟨[_,_,_],.cons (fQ (eV q63) H.n) (.cons (fQ (eV q66) H.n) (.cons (fQ (eV q69) h71) .nil)),RdS.new q73 (by kernel_rfl) rfl (W8 _)⟩
theorem jM (H:EK K0 K F b0 b1 b2 n) {m71:Sl} (h71:RL K m71 (dq 0).1) {b66:Nat} (q66:K b66=Y3 (Y4 #[vi 1] 3)) {b69:Nat} (q69:K b69=Y3 (Y4 #[vi 0] 3)):ib #[Y7 m71,vi (dq 0).2] #[Y7 n,vi aK.2] b66 #[Y7 n,vi aK.2] b69 b1 b0 (cD K0) F:=by unfold ib;refine ⟨rfl,?_⟩;refine H.h.new λb63 K F l q63 h=> ?_;have H:=H.up l h;have h71:=h71.le l;have q66:=l _ _ q66;have q69:=l _ _ q69;exact tV H q63 q66 q69 h71
theorem jN (H:EK K0 K F b0 b1 b2 n) {m70:Sl} (h70:RL K m70 (dia (tv 0)).1) {b66:Nat} (q66:K b66=Y3 (Y4 #[vi 1] 3)) {b69:Nat} (q69:K b69=Y3 (Y4 #[vi 0] 3)):ic #[Y7 n,vi aK.2] #[Y7 m70,vi (dia (tv 0)).2] b2 #[Y7 n,vi aK.2] b66 b69 b1 b0 (cD K0) F:=by
 unfold ic;refine ⟨?_,?_⟩
 ·refine H.h.new λb63 K F l q63 h=> ?_;have H:=H.up l h;have h70:=h70.le l;have q66:=l _ _ q66;have q69:=l _ _ q69;exact tU H h70 q63 q66 q69
 ·refine H.h.run (λG hl=>bC (x:=0) (by decide) ((DV.mk h70).le hl)) λ_ K F hr l h=> ?_;have H:=H.up l h;have h70:=h70.le l;have q66:=l _ _ q66;have q69:=l _ _ q69;obtain ⟨_,rfl,hw⟩:=hr;obtain ⟨m71,rfl,h71⟩:=hw.out;refine ⟨_,rfl,?_⟩;refine ⟨H.row,?_⟩;refine ⟨H.row,?_⟩;exact jM H h71 q66 q69
theorem DB (H:EK K0 K F b0 b1 b2 n) {b66:Nat} (q66:K b66=Y3 (Y4 #[vi 1] 3)) {b69:Nat} (q69:K b69=Y3 (Y4 #[vi 0] 3)):rm #[Y7 n,vi aK.2] b2 #[Y7 n,vi aK.2] b66 b69 b1 b0 (cD K0) F:=by
 unfold rm;refine ⟨?_,?_⟩
 ·refine H.h.new λb63 K F l q63 h=> ?_;have H:=H.up l h;have q66:=l _ _ q66;have q69:=l _ _ q69;exact tT H q63 q66 q69
 ·refine H.h.run (λG _=>aL 0 (by decide) G) λ_ K F hr l h=> ?_;have H:=H.up l h;have q66:=l _ _ q66;have q69:=l _ _ q69;obtain ⟨_,rfl,hw⟩:=hr;obtain ⟨m70,rfl,h70⟩:=hw.out;refine ⟨_,rfl,?_⟩;refine ⟨H.row,?_⟩;refine ⟨H.row,?_⟩;exact jN H h70 q66 q69
theorem tW (H:EK K0 K F b0 b1 b2 n) {m70:Sl} (h70:RL K m70 (dia (tv 0)).1) {b63:Nat} (q63:K b63=Y3 (Y4 #[vi 4] 3)) {b66:Nat} (q66:K b66=Y3 (Y4 #[vi 1] 3)):lS #[Y7 n,vi aK.2] #[Y7 m70,vi (dia (tv 0)).2] b2 #[Y7 n,vi aK.2] b63 b66 b1 b0 (cD K0) F:=by
 unfold lS;refine ⟨rfl,?_⟩;refine ⟨?_,?_⟩
 ·refine H.h.new λb69 K F l q69 h=> ?_;have H:=H.up l h;have h70:=h70.le l;have q63:=l _ _ q63;have q66:=l _ _ q66;exact gX H h70 q63 q66 q69
 ·refine H.h.run (λG hl=>bC (x:=0) (by decide) ((DV.mk h70).le hl)) λ_ K F hr l h=> ?_;have H:=H.up l h;have h70:=h70.le l;have q63:=l _ _ q63;have q66:=l _ _ q66;obtain ⟨_,rfl,hw⟩:=hr;obtain ⟨m71,rfl,h71⟩:=hw.out;refine ⟨_,rfl,?_⟩;refine ⟨H.row,?_⟩;refine ⟨H.row,?_⟩;exact qJ H h71 q63 q66
theorem tX (H:EK K0 K F b0 b1 b2 n) {m71:Sl} (h71:RL K m71 (dq 0).1) {b63:Nat} (q63:K b63=Y3 (Y4 #[vi 4] 3)) {b66:Nat} (q66:K b66=Y3 (Y4 #[vi 1] 3)):lT #[Y7 n,vi aK.2] #[Y7 m71,vi (dq 0).2] b63 b66 #[Y7 n,vi aK.2] b1 b0 (cD K0) F:=by unfold lT;refine ⟨rfl,?_⟩;refine H.h.new λb69 K F l q69 h=> ?_;have H:=H.up l h;have h71:=h71.le l;have q63:=l _ _ q63;have q66:=l _ _ q66;exact gW H h71 q63 q66 q69
theorem tY (H:EK K0 K F b0 b1 b2 n) {m71:Sl} (h71:RL K m71 (dq 0).1) {b66:Nat} (q66:K b66=Y3 (Y4 #[vi 1] 3)):lU #[Y7 n,vi aK.2] #[Y7 m71,vi (dq 0).2] b66 #[Y7 n,vi aK.2] b1 b0 (cD K0) F:=by
 unfold lU;refine ⟨?_,?_⟩
 ·refine H.h.new λb63 K F l q63 h=> ?_;have H:=H.up l h;have h71:=h71.le l;have q66:=l _ _ q66;exact tX H h71 q63 q66
 ·refine H.h.new λb69 K F l q69 h=> ?_;have H:=H.up l h;have h71:=h71.le l;have q66:=l _ _ q66;exact jM H h71 q66 q69
theorem DC (H:EK K0 K F b0 b1 b2 n) {m70:Sl} (h70:RL K m70 (dia (tv 0)).1) {b66:Nat} (q66:K b66=Y3 (Y4 #[vi 1] 3)):rq #[Y7 n,vi aK.2] #[Y7 m70,vi (dia (tv 0)).2] b2 #[Y7 n,vi aK.2] b66 b1 b0 (cD K0) F:=by
 unfold rq;refine ⟨?_,?_,?_⟩
 ·refine H.h.new λb63 K F l q63 h=> ?_;have H:=H.up l h;have h70:=h70.le l;have q66:=l _ _ q66;exact tW H h70 q63 q66
 ·refine H.h.new λb69 K F l q69 h=> ?_;have H:=H.up l h;have h70:=h70.le l;have q66:=l _ _ q66;exact jN H h70 q66 q69
 ·refine H.h.run (λG hl=>bC (x:=0) (by decide) ((DV.mk h70).le hl)) λ_ K F hr l h=> ?_;have H:=H.up l h;have h70:=h70.le l;have q66:=l _ _ q66;obtain ⟨_,rfl,hw⟩:=hr;obtain ⟨m71,rfl,h71⟩:=hw.out;refine ⟨_,rfl,?_⟩;refine ⟨H.row,?_⟩;refine ⟨H.row,?_⟩;exact tY H h71 q66
theorem DD (H:EK K0 K F b0 b1 b2 n) {b66:Nat} (q66:K b66=Y3 (Y4 #[vi 1] 3)):rt #[Y7 n,vi aK.2] #[Y7 n,vi aK.2] b2 b66 b1 b0 (cD K0) F:=by
 unfold rt;refine ⟨rfl,?_⟩;refine ⟨?_,?_,?_⟩
 ·refine H.h.new λb63 K F l q63 h=> ?_;have H:=H.up l h;have q66:=l _ _ q66;exact DA H q63 q66
 ·refine H.h.new λb69 K F l q69 h=> ?_;have H:=H.up l h;have q66:=l _ _ q66;exact DB H q66 q69
 ·refine H.h.run (λG _=>aL 0 (by decide) G) λ_ K F hr l h=> ?_;have H:=H.up l h;have q66:=l _ _ q66;obtain ⟨_,rfl,hw⟩:=hr;obtain ⟨m70,rfl,h70⟩:=hw.out;refine ⟨_,rfl,?_⟩;refine ⟨H.row,?_⟩;refine ⟨H.row,?_⟩;exact DC H h70 q66
theorem DE (H:EK K0 K F b0 b1 b2 n) {b63:Nat} (q63:K b63=Y3 (Y4 #[vi 4] 3)) {b69:Nat} (q69:K b69=Y3 (Y4 #[vi 0] 3)):ru #[Y7 n,vi aK.2] #[Y7 n,vi aK.2] b2 b63 b69 b1 b0 (cD K0) F:=by
 unfold ru;refine ⟨rfl,?_⟩;refine ⟨?_,?_⟩
 ·refine H.h.new λb66 K F l q66 h=> ?_;have H:=H.up l h;have q63:=l _ _ q63;have q69:=l _ _ q69;exact tN H q63 q66 q69
 ·refine H.h.run (λG _=>aL 0 (by decide) G) λ_ K F hr l h=> ?_;have H:=H.up l h;have q63:=l _ _ q63;have q69:=l _ _ q69;obtain ⟨_,rfl,hw⟩:=hr;obtain ⟨m70,rfl,h70⟩:=hw.out;refine ⟨_,rfl,?_⟩;refine ⟨H.row,?_⟩;refine ⟨H.row,?_⟩;exact jL H h70 q63 q69
theorem DF (H:EK K0 K F b0 b1 b2 n) {b66:Nat} (q66:K b66=Y3 (Y4 #[vi 1] 3)) {b69:Nat} (q69:K b69=Y3 (Y4 #[vi 0] 3)):rz #[Y7 n,vi aK.2] #[Y7 n,vi aK.2] b2 b66 b69 b1 b0 (cD K0) F:=by
 unfold rz;refine ⟨rfl,?_⟩;refine ⟨?_,?_⟩
 ·refine H.h.new λb63 K F l q63 h=> ?_;have H:=H.up l h;have q66:=l _ _ q66;have q69:=l _ _ q69;exact tT H q63 q66 q69
 ·refine H.h.run (λG _=>aL 0 (by decide) G) λ_ K F hr l h=> ?_;have H:=H.up l h;have q66:=l _ _ q66;have q69:=l _ _ q69;obtain ⟨_,rfl,hw⟩:=hr;obtain ⟨m70,rfl,h70⟩:=hw.out;refine ⟨_,rfl,?_⟩;refine ⟨H.row,?_⟩;refine ⟨H.row,?_⟩;exact jN H h70 q66 q69
theorem DG (H:EK K0 K F b0 b1 b2 n) {m70:Sl} (h70:RL K m70 (dia (tv 0)).1) {b63:Nat} (q63:K b63=Y3 (Y4 #[vi 4] 3)) {b69:Nat} (q69:K b69=Y3 (Y4 #[vi 0] 3)):rA #[Y7 n,vi aK.2] #[Y7 n,vi aK.2] #[Y7 m70,vi (dia (tv 0)).2] b2 b63 b69 b1 b0 (cD K0) F:=by
 unfold rA;refine ⟨rfl,?_⟩;refine ⟨?_,?_⟩
 ·refine H.h.new λb66 K F l q66 h=> ?_;have H:=H.up l h;have h70:=h70.le l;have q63:=l _ _ q63;have q69:=l _ _ q69;exact tO H h70 q63 q66 q69
 ·refine H.h.run (λG hl=>bC (x:=0) (by decide) ((DV.mk h70).le hl)) λ_ K F hr l h=> ?_;have H:=H.up l h;have h70:=h70.le l;have q63:=l _ _ q63;have q69:=l _ _ q69;obtain ⟨_,rfl,hw⟩:=hr;obtain ⟨m71,rfl,h71⟩:=hw.out;refine ⟨_,rfl,?_⟩;refine ⟨H.row,?_⟩;refine ⟨H.row,?_⟩;exact jK H h71 q63 q69
theorem DH (H:EK K0 K F b0 b1 b2 n) {m70:Sl} (h70:RL K m70 (dia (tv 0)).1) {b66:Nat} (q66:K b66=Y3 (Y4 #[vi 1] 3)) {b69:Nat} (q69:K b69=Y3 (Y4 #[vi 0] 3)):rB #[Y7 n,vi aK.2] #[Y7 n,vi aK.2] #[Y7 m70,vi (dia (tv 0)).2] b2 b66 b69 b1 b0 (cD K0) F:=by
 unfold rB;refine ⟨rfl,?_⟩;refine ⟨?_,?_⟩
 ·refine H.h.new λb63 K F l q63 h=> ?_;have H:=H.up l h;have h70:=h70.le l;have q66:=l _ _ q66;have q69:=l _ _ q69;exact tU H h70 q63 q66 q69
 ·refine H.h.run (λG hl=>bC (x:=0) (by decide) ((DV.mk h70).le hl)) λ_ K F hr l h=> ?_;have H:=H.up l h;have h70:=h70.le l;have q66:=l _ _ q66;have q69:=l _ _ q69;obtain ⟨_,rfl,hw⟩:=hr;obtain ⟨m71,rfl,h71⟩:=hw.out;refine ⟨_,rfl,?_⟩;refine ⟨H.row,?_⟩;refine ⟨H.row,?_⟩;exact jM H h71 q66 q69
theorem DI (H:EK K0 K F b0 b1 b2 n) {b63:Nat} (q63:K b63=Y3 (Y4 #[vi 4] 3)) {b69:Nat} (q69:K b69=Y3 (Y4 #[vi 0] 3)) {m71:Sl} (h71:RL K m71 (dq 0).1):rC #[Y7 n,vi aK.2] #[Y7 n,vi aK.2] b63 b69 #[Y7 m71,vi (dq 0).2] b1 b0 (cD K0) F:=by unfold rC;refine ⟨rfl,?_⟩;refine H.h.new λb66 K F l q66 h=> ?_;have H:=H.up l h;have q63:=l _ _ q63;have q69:=l _ _ q69;have h71:=h71.le l;exact tP H q63 q66 q69 h71
theorem DJ (H:EK K0 K F b0 b1 b2 n) {b66:Nat} (q66:K b66=Y3 (Y4 #[vi 1] 3)) {b69:Nat} (q69:K b69=Y3 (Y4 #[vi 0] 3)) {m71:Sl} (h71:RL K m71 (dq 0).1):rD #[Y7 n,vi aK.2] #[Y7 n,vi aK.2] b66 b69 #[Y7 m71,vi (dq 0).2] b1 b0 (cD K0) F:=by unfold rD;refine ⟨rfl,?_⟩;refine H.h.new λb63 K F l q63 h=> ?_;have H:=H.up l h;have q66:=l _ _ q66;have q69:=l _ _ q69;have h71:=h71.le l;exact tV H q63 q66 q69 h71
theorem tZ (H:EK K0 K F b0 b1 b2 n) {m71:Sl} (h71:RL K m71 (dq 0).1) {b69:Nat} (q69:K b69=Y3 (Y4 #[vi 0] 3)):lV #[Y7 m71,vi (dq 0).2] #[Y7 n,vi aK.2] #[Y7 n,vi aK.2] b69 b1 b0 (cD K0) F:=by
 unfold lV;refine ⟨rfl,?_⟩;refine ⟨?_,?_⟩
 ·refine H.h.new λb63 K F l q63 h=> ?_;have H:=H.up l h;have h71:=h71.le l;have q69:=l _ _ q69;exact DI H q63 q69 h71
 ·refine H.h.new λb66 K F l q66 h=> ?_;have H:=H.up l h;have h71:=h71.le l;have q69:=l _ _ q69;exact DJ H q66 q69 h71
theorem t4 (H:EK K0 K F b0 b1 b2 n) {m70:Sl} (h70:RL K m70 (dia (tv 0)).1) {b69:Nat} (q69:K b69=Y3 (Y4 #[vi 0] 3)):lW #[Y7 n,vi aK.2] #[Y7 n,vi aK.2] #[Y7 m70,vi (dia (tv 0)).2] b2 b69 b1 b0 (cD K0) F:=by
 unfold lW;refine ⟨?_,?_,?_⟩
 ·refine H.h.new λb63 K F l q63 h=> ?_;have H:=H.up l h;have h70:=h70.le l;have q69:=l _ _ q69;exact DG H h70 q63 q69
 ·refine H.h.new λb66 K F l q66 h=> ?_;have H:=H.up l h;have h70:=h70.le l;have q69:=l _ _ q69;exact DH H h70 q66 q69
 ·refine H.h.run (λG hl=>bC (x:=0) (by decide) ((DV.mk h70).le hl)) λ_ K F hr l h=> ?_;have H:=H.up l h;have h70:=h70.le l;have q69:=l _ _ q69;obtain ⟨_,rfl,hw⟩:=hr;obtain ⟨m71,rfl,h71⟩:=hw.out;refine ⟨_,rfl,?_⟩;refine ⟨H.row,?_⟩;refine ⟨H.row,?_⟩;exact tZ H h71 q69
theorem DK (H:EK K0 K F b0 b1 b2 n) {b69:Nat} (q69:K b69=Y3 (Y4 #[vi 0] 3)):rE #[Y7 n,vi aK.2] #[Y7 n,vi aK.2] b2 b69 b1 b0 (cD K0) F:=by
 unfold rE;refine ⟨?_,?_,?_⟩
 ·refine H.h.new λb63 K F l q63 h=> ?_;have H:=H.up l h;have q69:=l _ _ q69;exact DE H q63 q69
 ·refine H.h.new λb66 K F l q66 h=> ?_;have H:=H.up l h;have q69:=l _ _ q69;exact DF H q66 q69
 ·refine H.h.run (λG _=>aL 0 (by decide) G) λ_ K F hr l h=> ?_;have H:=H.up l h;have q69:=l _ _ q69;obtain ⟨_,rfl,hw⟩:=hr;obtain ⟨m70,rfl,h70⟩:=hw.out;refine ⟨_,rfl,?_⟩;refine ⟨H.row,?_⟩;refine ⟨H.row,?_⟩;exact t4 H h70 q69
theorem DL (H:EK K0 K F b0 b1 b2 n) {m70:Sl} (h70:RL K m70 (dia (tv 0)).1) {b63:Nat} (q63:K b63=Y3 (Y4 #[vi 4] 3)):rF #[Y7 n,vi aK.2] #[Y7 n,vi aK.2] #[Y7 m70,vi (dia (tv 0)).2] b2 b63 b1 b0 (cD K0) F:=by
 unfold rF;refine ⟨rfl,?_⟩;refine ⟨?_,?_,?_⟩
 ·refine H.h.new λb66 K F l q66 h=> ?_;have H:=H.up l h;have h70:=h70.le l;have q63:=l _ _ q63;exact tQ H h70 q63 q66
 ·refine H.h.new λb69 K F l q69 h=> ?_;have H:=H.up l h;have h70:=h70.le l;have q63:=l _ _ q63;exact jL H h70 q63 q69
 ·refine H.h.run (λG hl=>bC (x:=0) (by decide) ((DV.mk h70).le hl)) λ_ K F hr l h=> ?_;have H:=H.up l h;have h70:=h70.le l;have q63:=l _ _ q63;obtain ⟨_,rfl,hw⟩:=hr;obtain ⟨m71,rfl,h71⟩:=hw.out;refine ⟨_,rfl,?_⟩;refine ⟨H.row,?_⟩;refine ⟨H.row,?_⟩;exact tS H h71 q63
theorem DM (H:EK K0 K F b0 b1 b2 n) {m70:Sl} (h70:RL K m70 (dia (tv 0)).1) {b66:Nat} (q66:K b66=Y3 (Y4 #[vi 1] 3)):rG #[Y7 n,vi aK.2] #[Y7 n,vi aK.2] #[Y7 m70,vi (dia (tv 0)).2] b2 b66 b1 b0 (cD K0) F:=by
 unfold rG;refine ⟨rfl,?_⟩;refine ⟨?_,?_,?_⟩
 ·refine H.h.new λb63 K F l q63 h=> ?_;have H:=H.up l h;have h70:=h70.le l;have q66:=l _ _ q66;exact tW H h70 q63 q66
 ·refine H.h.new λb69 K F l q69 h=> ?_;have H:=H.up l h;have h70:=h70.le l;have q66:=l _ _ q66;exact jN H h70 q66 q69
 ·refine H.h.run (λG hl=>bC (x:=0) (by decide) ((DV.mk h70).le hl)) λ_ K F hr l h=> ?_;have H:=H.up l h;have h70:=h70.le l;have q66:=l _ _ q66;obtain ⟨_,rfl,hw⟩:=hr;obtain ⟨m71,rfl,h71⟩:=hw.out;refine ⟨_,rfl,?_⟩;refine ⟨H.row,?_⟩;refine ⟨H.row,?_⟩;exact tY H h71 q66
theorem DN (H:EK K0 K F b0 b1 b2 n) {m71:Sl} (h71:RL K m71 (dq 0).1) {b63:Nat} (q63:K b63=Y3 (Y4 #[vi 4] 3)):rH #[Y7 n,vi aK.2] #[Y7 n,vi aK.2] #[Y7 m71,vi (dq 0).2] b63 b1 b0 (cD K0) F:=by
 unfold rH;refine ⟨rfl,?_⟩;refine ⟨?_,?_⟩
 ·refine H.h.new λb66 K F l q66 h=> ?_;have H:=H.up l h;have h71:=h71.le l;have q63:=l _ _ q63;exact tR H h71 q63 q66
 ·refine H.h.new λb69 K F l q69 h=> ?_;have H:=H.up l h;have h71:=h71.le l;have q63:=l _ _ q63;exact jK H h71 q63 q69
theorem DO (H:EK K0 K F b0 b1 b2 n) {m71:Sl} (h71:RL K m71 (dq 0).1) {b66:Nat} (q66:K b66=Y3 (Y4 #[vi 1] 3)):rI #[Y7 n,vi aK.2] #[Y7 n,vi aK.2] #[Y7 m71,vi (dq 0).2] b66 b1 b0 (cD K0) F:=by
 unfold rI;refine ⟨rfl,?_⟩;refine ⟨?_,?_⟩
 ·refine H.h.new λb63 K F l q63 h=> ?_;have H:=H.up l h;have h71:=h71.le l;have q66:=l _ _ q66;exact tX H h71 q63 q66
 ·refine H.h.new λb69 K F l q69 h=> ?_;have H:=H.up l h;have h71:=h71.le l;have q66:=l _ _ q66;exact jM H h71 q66 q69
theorem DP (H:EK K0 K F b0 b1 b2 n) {m71:Sl} (h71:RL K m71 (dq 0).1):rJ #[Y7 n,vi aK.2] #[Y7 n,vi aK.2] #[Y7 m71,vi (dq 0).2] b1 b0 (cD K0) F:=by
 unfold rJ;refine ⟨?_,?_,?_⟩
 ·refine H.h.new λb63 K F l q63 h=> ?_;have H:=H.up l h;have h71:=h71.le l;exact DN H h71 q63
 ·refine H.h.new λb66 K F l q66 h=> ?_;have H:=H.up l h;have h71:=h71.le l;exact DO H h71 q66
 ·refine H.h.new λb69 K F l q69 h=> ?_;have H:=H.up l h;have h71:=h71.le l;exact tZ H h71 q69
theorem DQ (H:EK K0 K F b0 b1 b2 n) {m70:Sl} (h70:RL K m70 (dia (tv 0)).1):rK #[Y7 n,vi aK.2] #[Y7 n,vi aK.2] #[Y7 m70,vi (dia (tv 0)).2] b2 b1 b0 (cD K0) F:=by
 unfold rK;refine ⟨?_,?_,?_,?_⟩
 ·refine H.h.new λb63 K F l q63 h=> ?_;have H:=H.up l h;have h70:=h70.le l;exact DL H h70 q63
 ·refine H.h.new λb66 K F l q66 h=> ?_;have H:=H.up l h;have h70:=h70.le l;exact DM H h70 q66
 ·refine H.h.new λb69 K F l q69 h=> ?_;have H:=H.up l h;have h70:=h70.le l;exact t4 H h70 q69
 ·refine H.h.run (λG hl=>bC (x:=0) (by decide) ((DV.mk h70).le hl)) λ_ K F hr l h=> ?_;have H:=H.up l h;have h70:=h70.le l;obtain ⟨_,rfl,hw⟩:=hr;obtain ⟨m71,rfl,h71⟩:=hw.out;refine ⟨_,rfl,?_⟩;refine ⟨H.row,?_⟩;refine ⟨H.row,?_⟩;exact DP H h71
end
theorem nf (F:PH):ν 129 #[] F λr F'=>(∃w,r=Y9 w/\GV F' w cG)/\F.le F':=by
 refine Q6 ?_;unfold LQ;refine gT F [⟨#[69]⟩] rfl rfl λb0 b1 F1 h=> ?_;refine h.allv λb2 K1 F2 n l1 q hn h=> ?_;refine h.rule3 (eI 0) (cY 1) (eI 0) (by decide) λF2 h=> ?_;refine h.rule3 (eI 0) (cY 2) (eI 0) (by decide) λF2 h=> ?_;refine h.rule3 (cY 3) (eI 0) (cY 4) (by decide) λF2 h=> ?_;refine h.rule1 (cY 0) (by decide) λF2 h=> ?_;refine h.rule3 (eI 0) (cY 8) (eI 0) (by decide) λF2 h=> ?_;refine h.brk 2 rfl λF2 h=> ?_;refine h.cnd 4 rfl 1 (by decide) λF2 h=> ?_;refine ⟨_,rfl,ac (h.le _ _ q),_,rfl,ac (h.le _ _ q),?_⟩;have H:EK F _ _ b0 b1 b2 n:=⟨h,l1,q,hn⟩;refine ⟨?_,?_,?_,?_⟩
 ·refine H.h.new λb63 K F l q63 h=> ?_;have H:=H.up l h;exact FA H q63
 ·refine H.h.new λb66 K F l q66 h=> ?_;have H:=H.up l h;exact DD H q66
 ·refine H.h.new λb69 K F l q69 h=> ?_;have H:=H.up l h;exact DK H q69
 ·refine H.h.run (λG _=>aL 0 (by decide) G) λ_ K F hr l h=> ?_;have H:=H.up l h;obtain ⟨_,rfl,hw⟩:=hr;obtain ⟨m70,rfl,h70⟩:=hw.out;refine ⟨_,rfl,?_⟩;refine ⟨H.row,?_⟩;refine ⟨H.row,?_⟩;exact DQ H h70
def cq (k:Nat):Gr:=if k=0 then cG else if k=1 then co else if k=2 then dm else if k=3 then jJ else if k=4 then gU else gV
theorem zv (k:Nat) (F:PH):ν 80 #[Zf .u8 (k:Int)] F λr F'=>(∃w,r=Y9 w/\GV F' w (cq (k % 6)))/\F.le F':=by
 refine VO ?_;unfold QT;refine (St.start F).new λb F1 h=> ?_;have e:Zk (k:Int) 6=((k % 6:Nat):Int):=by rw [XX (by omega)];omega
 rw [e];have hk:k % 6<6:=X8 _ (by decide);generalize k % 6=j at*;have fin:∀{v:ξ} {G F1:PH},F.le G->(∃w,v=Y9 w/\GV G w (cq j))->St G F1 [pt b (Y4 zG 37)]->∃w:Γ,v=Y9 w/\au F1 (Zc b 0 Y5) 9 w λF2=>∃w:Γ,w.size=9/\F2.row (Zc b 0 Y5) w/\((∃w',Y9 w=Y9 w'/\GV F2 w' (cq j))/\F.le F2):=λ{v G F1} hl hv h=>by obtain ⟨w,rfl,hv⟩:=hv;exact ⟨w,rfl,h.put0 (w':=w) hv.size rfl hv.st λF2 h=>⟨w,hv.size,h.whole0,⟨w,rfl,hv.le h.le⟩,aa hl h.le⟩⟩
 refine ⟨λh0=> ?_,λh0=>⟨λh1=> ?_,λh1=>⟨λh2=> ?_,λh2=>⟨λh3=> ?_,λh3=>⟨λh4=> ?_,λh4=> ?_⟩⟩⟩⟩⟩
 ·obtain rfl:j=0:=by omega
  exact h.run (nf _) λ_ G F2 hr l h=>fin l hr h
 ·obtain rfl:j=1:=by omega
  exact h.run (oP _) λ_ G F2 hr l h=>fin l hr h
 ·obtain rfl:j=2:=by omega
  exact h.run (lq _) λ_ G F2 hr l h=>fin l hr h
 ·obtain rfl:j=3:=by omega
  exact h.run (xC _) λ_ G F2 hr l h=>fin l hr h
 ·obtain rfl:j=4:=by omega
  exact h.run (vu _) λ_ G F2 hr l h=>fin l hr h
 ·obtain rfl:j=5:=by omega
  exact h.run (vr _) λ_ G F2 hr l h=>fin l hr h
def jc (b n:Nat):Tr:=if n=0\/b % 6<3 then Y0 Y8 else if b % 6=3 then tv (b / 6 % n) else if b % 6=4 then ap2 kN (tv (b / 6 % n)) (Y0 Y8) else jd [(b:Int)] n 0 0
theorem xF {n:Nat} (h:n<256):u8.wrap (n:Int)=n:=by simp only [IntKind.wrap,IntKind.bits,IntKind.signed,Bool.false_and,XE,if_false];omega
theorem vx {F G F1:PH} {b:Nat} {As:List (Ψ)} {w c:Γ} {d:Dia} {P:Prop} (h:St G F1 (pt b (Y4 c 31)::As)) (hc:c.size=2) (hw:DV G w d) (hl:F.le G) (hp:P):
  au F1 (Zc b 0 Y5) 2 w λF2=>∃v:Γ,v.size=2/\F2.row (Zc b 0 Y5) v/\((lj d (Y9 v) F2/\P)/\F.le F2):=by
 obtain ⟨n,rfl,hn⟩:=hw.out;refine h.put0 (w':= #[n.v,vi d.2]) rfl hc (by simp [ak,Y7]) λF2 h=> ?_;exact ⟨_,rfl,h.whole0,⟨⟨_,rfl,DV.mk (hn.le h.le)⟩,hp⟩,aa hl h.le⟩
theorem qK (b n:Nat) (hb:b<256) (hn:n<=6) (F:PH):ν 33 #[Zf .u8 (b:Int),vi n] F λr F'=>(lj (dia (jc b n)) r F'/\Sx n (jc b n))/\F.le F':=by
 refine VJ ?_;unfold QO;refine (St.start F).new λb4 F1 h=> ?_;have em:Zk (b:Int) 6=((b % 6:Nat):Int):=by rw [XX (by omega)];omega
 have j1:∀q:Bool,(n=0->q=Y8)->(n≠0->q=decide (b % 6<3))->vG (b:Int) (n:Int) b4 q (λr F'=>(lj (dia (jc b n)) r F'/\Sx n (jc b n))/\F.le F') F1:=λq h0 h1=>by
  unfold vG;refine ⟨λhq=> ?_,λhq=> ?_⟩
  ·have e:jc b n=Y0 Y8:=by
    unfold jc;rw [Χ];by_cases hn0:n=0
    ·exact .inl hn0
    ·have:=h1 hn0;rw [hq] at this;exact .inr (ε this.symm)
   rw [e];refine h.run (ga _) λ_ G F2 hr l h=> ?_;obtain ⟨w,rfl,hw⟩:=hr;exact ⟨_,rfl,vx h rfl hw l (Sx.Y0 n Y8)⟩
  ·have hn0:n≠0:=λhn0=>by rw [h0 hn0] at hq;cases hq
   have hb3:¬b % 6<3:=by have:=h1 hn0;rw [hq] at this;exact η this.symm
   have ev:Zk (i64.wrap (u8.wrap (Int.tdiv (b:Int) 6))) (n:Int)=((b / 6 % n:Nat):Int):=by
    have e1:Int.tdiv (b:Int) 6=((b / 6:Nat):Int):=by rw [Yg (by omega)];omega
    have e2:u8.wrap ((b / 6:Nat):Int)=((b / 6:Nat):Int):=xF (by omega);rw [e1,e2,aP (by omega),XX (by omega)];exact (Int.natCast_emod _ _).symm
   have hvn:b / 6 % n<n:=X8 _ (by omega);refine ⟨by omega,?_⟩;rw [ev,em];generalize hx:b / 6 % n=x at*;refine h.run (aL x (by omega) _) λ_ G F2 hr l h=> ?_;obtain ⟨w,rfl,hw⟩:=hr;obtain ⟨m,rfl,hm⟩:=hw.out;refine ⟨_,rfl,?_⟩;refine h.new λb5 F3 h=> ?_;refine h.put0 (w':= #[m.v,vi (dia (tv x)).2]) rfl rfl (by simp [ak,Y7]) λF4 h=> ?_;have kx:Sx n (tv x):=Sx.tv hvn hn;refine ⟨λh3=> ?_,λh3=>⟨λh4=> ?_,λh4=> ?_⟩⟩
   ·have e:jc b n=tv x:=by unfold jc;rw [Υ (by omega),Χ (by omega),hx]
    rw [e];refine ⟨_,rfl,h.whole0,?_⟩;have h:=h.swap;exact vx h rfl (DV.mk hm) l kx
   ·have e:jc b n=ap2 kN (tv x) (Y0 Y8):=by unfold jc;rw [Υ (by omega),Υ (by omega),Χ (by omega),hx]
    rw [e];refine ⟨_,rfl,h.whole0,?_⟩;refine h.run (bC (x:=x) (by omega) (DV.mk hm)) λ_ G2 F5 hr l2 h=> ?_;obtain ⟨w,rfl,hw⟩:=hr;refine ⟨_,rfl,?_⟩;have h:=h.swap;exact vx h rfl hw (aa l l2) (kx.ap2 (Sx.Y0 n Y8))
   ·have e:jc b n=jd [(b:Int)] n 0 0:=by unfold jc;rw [Υ (by omega),Υ (by omega),Υ (by omega)]
    rw [e];refine h.newG λb30 G2 F5 l2 q _ h=> ?_;have hr:RdS G2 (Zj (Y3 (Zc b30 0 Y5)) 1 1) 1 ([(b:Int)].map (Zf .u8)):=RdS.new q rfl rfl (W8 _);refine h.run (P:=λr G=>(∃u,r=Y9 u/\DV G u (dia (jd [(b:Int)] n 0 0)))/\Sx n (jd [(b:Int)] n 0 0)) ((ox hn hr).mono λr F' ⟨u,t,h1,⟨h2,h3⟩,h4,h5⟩=>⟨⟨⟨u,h1,h3▸h4⟩,h3▸h2⟩,h5⟩) λ_ G3 F6 hr l3 h=> ?_;obtain ⟨⟨w,rfl,hw⟩,hs⟩:=hr;refine ⟨_,rfl,?_⟩;have h:=h.swap;exact vx h rfl hw (aa l (aa l2 l3)) hs
 refine ⟨λh0=>j1 Y8 (λ_=>rfl) (λhn=>absurd (by omega) hn),λh0=>j1 _ (λhn=>absurd (by omega) h0) (λ_=> ?_)⟩;rw [em];exact decide_eq_decide.2 (by omega)
open Classical in
def qL (p:Pr):Bool:=decide (xN p)
theorem lr {F:PH} {w:Γ} {p:Pr} (hw:Mem.rep F p w) (_:p.right.length<=1000):ν 171 #[Y9 w] F λr F'=>r=Za (qL p)/\F.le F':=by
 obtain ⟨s,n,l,rfl,h1,h2,h3⟩:=hw;have e1:=h1.len;have e3:=h3.len;have no:∀{F1:PH},F.le F1->¬xN p->(Za Y6=Za (qL p)/\F.le F1):=λhl hn=>⟨by unfold qL;simp [hn],hl⟩;have sy:∀{F1:PH},F.le F1->∀i:Nat,i<p.right.length->∃(a:Addr) (x:Sy),s.YZ=Y3 a/\p.right[i]? =Y3 x/\F1.cell (Zb a (Zd (i:Int)*2))=Y3 (Za x.t)/\F1.cell (Zb (Zb a (Zd (i:Int)*2)) 1)=Y3 (vi x.i):=λhl i hi=>by obtain ⟨a,c,ha,hrow,hc⟩:=(h1.le hl).get (by decide) (N5 hi);cases hc;rw [N4];exact ⟨a,_,ha,N5 hi,aQ hrow rfl,bj hrow rfl⟩
 refine Rp ?_;unfold Md;refine (St.start F).newG λb1 G1 F1 l1 q _ h=> ?_;have q:=h.le _ _ q;have lF:=aa l1 h.le;refine ⟨_,ld q rfl,λhc=>no lF λhp=>hc (by rw [e1,hp.1];rfl),λhc=>⟨_,ld q rfl,λhk=>no lF λhp=>hk hp.2.1,λhk=>⟨_,ld q rfl,λhy=>no lF λhp=> ?_,λhy=>⟨p.sco.arr,rfl,je q rfl,decide (p.sco=qS),λF=>LF p.sco qS F,λhs=>no lF λhp=> ?_,λhs=> ?_⟩⟩⟩⟩
 ·rw [e3,hp.2.2.1] at hy;simp at hy
 ·rw [ζ hp.2.2.2.1] at hs;cases hs
 have hc:p.right.length=3:=by omega
 have hs:p.sco=qS:=by simpa using hs
 have hlay:p.lay=[]:=Xp (by omega);have hrk:p.rank=0:=Classical.not_not.1 hk;obtain ⟨a,x0,ha,hx0,c0,_⟩:=sy lF 0 (by omega);obtain ⟨_,x1,ha1,hx1,c1,d1⟩:=sy lF 1 (by omega);obtain ⟨_,x2,ha2,hx2,c2,_⟩:=sy lF 2 (by omega);rw [ha] at ha1 ha2;cases ha1;cases ha2;refine ⟨_,ld q rfl,a,ha,by decide,by omega,x0.t,c0,λt0=>⟨_,ld q rfl,a,ha,by decide,by omega,x2.t,c2,λt2=>⟨_,ld q rfl,a,ha,by decide,by omega,x1.t,c1,λt1=>⟨_,ld q rfl,a,ha,by decide,by omega,x1.i,d1,p.left,ld q rfl,?_,lF⟩,λt1=>no lF λhp=> ?_⟩,λt2=>no lF λhp=> ?_⟩,λt0=>no lF λhp=> ?_⟩
 ·have t1:x1.t=Y6:=by simpa using t1
  unfold qL;congr 1;refine decide_eq_decide.2 ⟨λh=>⟨hc,hrk,hlay,hs,⟨x0,hx0,t0⟩,?_,⟨x2,hx2,t2⟩⟩,λhp=> ?_⟩
  ·rw [hx1,<- h,<- t1]
  ·have:=hp.2.2.2.2.2.1;rw [hx1] at this;cases this;rfl
 ·have:=hp.2.2.2.2.2.1;rw [hx1] at this;cases this;cases t1
 ·obtain ⟨y,hy,ht⟩:=hp.2.2.2.2.2.2;rw [hx2] at hy;cases hy;rw [ht] at t2;cases t2
 ·obtain ⟨y,hy,ht⟩:=hp.2.2.2.2.1;rw [hx0] at hy;cases hy;rw [ht] at t0;cases t0
def cE (p:Pr) (m:Nat):Pr:=
 if p.right.length=0 then p else
 if m % 8=1 then {p with rank:=1} else
 if m % 8=2 then {p with rank:= -1} else
 if m % 8=3 then {p with brk:=qL p} else
 if m % 8=4 then {p with lay:=[⟨((1+m / 8 % 4:Nat):Int),((m / 8 / 4 % p.right.length:Nat):Int),if m / 8 % 4=0 then 0 else ((p.right.length - 1:Nat):Int)⟩]} else
 if m % 8=5 then {p with sco:={p.sco with o:=Y8}} else
 if m % 8=6 then (if (p.right.getD (m / 8 % p.right.length) ⟨Y6,0⟩).t=Y8 then {p with sco:=⟨Y6,((m / 8 % p.right.length+1:Nat):Int),((1+m / 8 % 2:Nat):Int),0,0⟩} else p) else
 if m % 8=7 then (if (p.right.getD (m / 8 % p.right.length) ⟨Y6,0⟩).t=Y8 then {p with sco:=⟨Y6,0,0,((m / 8 % p.right.length+1:Nat):Int),((1+m / 8 % 7:Nat):Int)⟩} else p) else p
abbrev z13:Γ:= #[Zg ⟨#[]⟩,Zf .i64 0,.slice Y5 0 0,.slice Y5 0 0,.int .i64 0,.bool Y6,.int .i64 0,.slice Y5 0 0,.bool Y6,.int .i64 0,.int .i64 0,.int .i64 0,.int .i64 0]
theorem xG {F:PH} {w:Γ} {p:Pr} {m:Nat} (hw:Mem.rep F p w) (hm:m<256) (hb:p.right.length<=1000):ν 136 #[Y9 w,Zf .u8 (m:Int)] F λr F'=>(∃w',r=Y9 w'/\Mem.rep F' (cE p m) w')/\F.le F':=by
 obtain ⟨s,n,l,rfl,h1,h2,h3⟩:=hw;have e1:s.len=p.right.length:=h1.len;refine Rc ?_;unfold LZ;refine (St.start F).new λb2 F1 h=> ?_;refine h.new λb4 F2 h=> ?_;have e8:Zk (m:Int) 8=((m % 8:Nat):Int):=by rw [XX (by omega)];omega
 have ek:i64.wrap (u8.wrap (Int.tdiv (m:Int) 8))=((m / 8:Nat):Int):=by rw [Yg (by omega),show (m:Int) / 8=((m / 8:Nat):Int) by omega,xF (by omega),aP (by omega)]
 have tm:∀a b:Nat,Zk (a:Int) (b:Int)=((a % b:Nat):Int):=λa b=>by rw [XX (by omega)];exact (Int.natCast_emod _ _).symm
 have fin:∀{G F1:PH} {p':Pr} {l':Sl},F.le G->p'=cE p m->p'.right=p.right->p'.cond=p.cond->RL G l' p'.lay->St G F1 [pt b4 (Y4 z13 55),pt b2 (Y4 (p'.arr s n l') 55)]->dI b2 b4 (λr F'=>(∃w',r=Y9 w'/\Mem.rep F' (cE p m) w')/\F.le F') F1:=λ{G F1 p' l'} hl hp hr hc hl' h=>by unfold dI;refine ⟨_,rfl,h.whole1,?_⟩;refine h.put0 (w':=p'.arr s n l') rfl rfl (by simp [ak,Y7]) λF3 h=> ?_;have lF:=aa hl h.le;exact ⟨_,rfl,h.whole0,⟨_,rfl,hp▸⟨s,n,l',rfl,by rw [hr];exact h1.le lF,by rw [hc];exact h2.le lF,hl'.le h.le⟩⟩,lF⟩
 refine ⟨_,h.ld1 rfl,λh0=> ?_,λh0=> ?_⟩
 ·have e:cE p m=p:=by unfold cE;rw [Χ (by omega)]
  refine ⟨_,rfl,h.whole1,?_⟩;refine h.put0 (w':=p.arr s n l) rfl rfl (by simp [ak,Y7]) λF3 h=> ?_;exact ⟨_,rfl,h.whole0,⟨_,rfl,by rw [e];exact ⟨s,n,l,rfl,h1.le h.le,h2.le h.le,h3.le h.le⟩⟩,h.le⟩
 have hn0:p.right.length≠0:=λh=>h0 (by rw [e1,h];rfl);have hn1:s.len≠0:=by omega
 rw [e8,ek];refine ⟨λc1=> ?_,λc1=>⟨λc2=> ?_,λc2=>⟨λc3=> ?_,λc3=>⟨λc4=> ?_,λc4=>⟨λc5=> ?_,λc5=>⟨λc6=> ?_,λc6=>⟨λc7=> ?_,λc7=> ?_⟩⟩⟩⟩⟩⟩⟩
 ·refine h.set1 (w':=Pr.arr {p with rank:=1} s n l) (Zn rfl) rfl λF3 h=> ?_;exact fin (p':={p with rank:=1}) (am _) (by unfold cE;rw [Υ hn0,Χ (by omega)]) rfl rfl h3 h
 ·refine h.set1 (w':=Pr.arr {p with rank:= -1} s n l) (Zn rfl) rfl λF3 h=> ?_;exact fin (p':={p with rank:= -1}) (am _) (by unfold cE;rw [Υ hn0,Υ (by omega),Χ (by omega)]) rfl rfl h3 h
 ·refine h.set1 (w':=Pr.arr {p with brk:=Y8} s n l) (Zn rfl) rfl λF3 h=> ?_;refine ⟨_,rfl,h.whole1,?_⟩;refine h.runv (lr (p:={p with brk:=Y8}) ⟨s,n,l,rfl,h1,h2,h3⟩ hb) λG F4 l4 h=> ?_;refine ⟨_,rfl,?_⟩;refine h.set1 (w':=Pr.arr {p with brk:=qL p} s n l) (Zn rfl) rfl λF5 h=> ?_;exact fin (p':={p with brk:=qL p}) l4 (by unfold cE;rw [Υ hn0,Υ (by omega),Υ (by omega),Χ (by omega)]) rfl rfl (h3.le l4) h
 ·have k4:Zk ((m / 8:Nat):Int) 4=((m / 8 % 4:Nat):Int):=tm _ 4;have d4:i64.wrap (Int.tdiv ((m / 8:Nat):Int) 4)=((m / 8 / 4:Nat):Int):=by rw [Yg (by omega),aP (by omega)];omega
  have x1:i64.wrap ((1:Int)+((m / 8 % 4:Nat):Int))=((1+m / 8 % 4:Nat):Int):=by rw [aP (by omega)];omega
  have x3:i64.wrap ((s.len:Int) - 1)=((p.right.length - 1:Nat):Int):=by rw [aP (by omega)];omega
  rw [k4,d4,tm,x1,x3,e1];refine ⟨by omega,rfl,?_⟩;refine h.new λb42 F3 h=> ?_;refine h.set2 (w':=Pr.arr p s n (Zj (Y3 (Zc b42 0 Y5)) 1 1)) (Zn rfl) rfl λF4 h=> ?_;refine ⟨λhk=> ?_,λhk=> ?_⟩
  ·refine ⟨_,h.ld2 rfl,_,rfl,by decide,(by show (0:Int)<1;decide),?_⟩;simp only [aE];refine h.set0 (i:=2) (w':=Cn.arr ⟨((1+m / 8 % 4:Nat):Int),((m / 8 / 4 % p.right.length:Nat):Int),0⟩) (Zn rfl) rfl λF5 h=> ?_;obtain ⟨G,l5,⟨H,hA,hH⟩,h⟩:=h.pin;exact fin (p':={p with lay:=[⟨((1+m / 8 % 4:Nat):Int),((m / 8 / 4 % p.right.length:Nat):Int),0⟩]}) l5 (by unfold cE;rw [Υ hn0,Υ (by omega),Υ (by omega),Υ (by omega),Χ (by omega),Χ (by omega)]) rfl rfl (zt (hH _ _ hA)) h
  ·obtain ⟨G,l5,⟨H,hA,hH⟩,h⟩:=h.pin;exact fin (p':={p with lay:=[⟨((1+m / 8 % 4:Nat):Int),((m / 8 / 4 % p.right.length:Nat):Int),((p.right.length - 1:Nat):Int)⟩]}) l5 (by unfold cE;rw [Υ hn0,Υ (by omega),Υ (by omega),Υ (by omega),Χ (by omega),Υ (by omega)]) rfl rfl (zt (x:=⟨((1+m / 8 % 4:Nat):Int),((m / 8 / 4 % p.right.length:Nat):Int),((p.right.length - 1:Nat):Int)⟩) (hH _ _ hA)) h
 ·refine h.set1 (w':=Pr.arr {p with sco:={p.sco with o:=Y8}} s n l) (Zn rfl) rfl λF3 h=> ?_;exact fin (p':={p with sco:={p.sco with o:=Y8}}) (am _) (by unfold cE;rw [Υ hn0,Υ (by omega),Υ (by omega),Υ (by omega),Υ (by omega),Χ (by omega)]) rfl rfl h3 h
 ·refine ⟨_,h.ld1 rfl,by omega,?_⟩;have hlt:m / 8 % p.right.length<p.right.length:=X8 _ (by omega);have hx:=N5 hlt;obtain ⟨a,c,ha,hrow,hc⟩:=(h1.le h.le).get (by decide) hx;cases hc;rw [tm,e1];have kw:((p.right.length:Nat):Int)≠0:=by omega
  have gd:p.right.getD (m / 8 % p.right.length) ⟨Y6,0⟩=p.right[m / 8 % p.right.length]:=by rw [Xx,hx];rfl
  have k2:Zk ((m / 8:Nat):Int) 2=((m / 8 % 2:Nat):Int):=tm _ 2;have x1:i64.wrap ((1:Int)+((m / 8 % 2:Nat):Int))=((1+m / 8 % 2:Nat):Int):=by rw [aP (by omega)];omega
  have x3:i64.wrap (((m / 8 % p.right.length:Nat):Int)+1)=((m / 8 % p.right.length+1:Nat):Int):=by rw [aP (by omega)];omega
  rw [k2,x1,x3];refine ⟨a,ha,by omega,by omega,_,by rw [N4];exact aQ hrow rfl,λht=>⟨kw,?_⟩,λht=> ?_⟩
  ·refine h.putR1 (w':=Pr.arr {p with sco:=⟨Y6,((m / 8 % p.right.length+1:Nat):Int),((1+m / 8 % 2:Nat):Int),0,0⟩} s n l) rfl (by simp [ak]) (by show 8+5<=13;decide) rfl λF3 h=> ?_;exact fin (p':={p with sco:=⟨Y6,((m / 8 % p.right.length+1:Nat):Int),((1+m / 8 % 2:Nat):Int),0,0⟩}) (am _) (by unfold cE;rw [Υ hn0,Υ (by omega),Υ (by omega),Υ (by omega),Υ (by omega),Υ (by omega),Χ (by omega),Χ (by rw [gd];exact ht)]) rfl rfl h3 h
  ·exact fin (p':=p) (am _) (by unfold cE;rw [Υ hn0,Υ (by omega),Υ (by omega),Υ (by omega),Υ (by omega),Υ (by omega),Χ (by omega),Υ (by rw [gd,ht];decide)]) rfl rfl h3 h
 ·refine ⟨_,h.ld1 rfl,by omega,?_⟩;have hlt:m / 8 % p.right.length<p.right.length:=X8 _ (by omega);have hx:=N5 hlt;obtain ⟨a,c,ha,hrow,hc⟩:=(h1.le h.le).get (by decide) hx;cases hc;rw [tm,e1];have kw:((p.right.length:Nat):Int)≠0:=by omega
  have gd:p.right.getD (m / 8 % p.right.length) ⟨Y6,0⟩=p.right[m / 8 % p.right.length]:=by rw [Xx,hx];rfl
  have k7:Zk ((m / 8:Nat):Int) 7=((m / 8 % 7:Nat):Int):=tm _ 7;have x1:i64.wrap ((1:Int)+((m / 8 % 7:Nat):Int))=((1+m / 8 % 7:Nat):Int):=by rw [aP (by omega)];omega
  have x3:i64.wrap (((m / 8 % p.right.length:Nat):Int)+1)=((m / 8 % p.right.length+1:Nat):Int):=by rw [aP (by omega)];omega
  rw [k7,x1,x3];refine ⟨a,ha,by omega,by omega,_,by rw [N4];exact aQ hrow rfl,λht=>⟨kw,?_⟩,λht=> ?_⟩
  ·refine h.putR1 (w':=Pr.arr {p with sco:=⟨Y6,0,0,((m / 8 % p.right.length+1:Nat):Int),((1+m / 8 % 7:Nat):Int)⟩} s n l) rfl (by simp [ak]) (by show 8+5<=13;decide) rfl λF3 h=> ?_;exact fin (p':={p with sco:=⟨Y6,0,0,((m / 8 % p.right.length+1:Nat):Int),((1+m / 8 % 7:Nat):Int)⟩}) (am _) (by unfold cE;rw [Υ hn0,Υ (by omega),Υ (by omega),Υ (by omega),Υ (by omega),Υ (by omega),Υ (by omega),Χ (by omega),Χ (by rw [gd];exact ht)]) rfl rfl h3 h
  ·exact fin (p':=p) (am _) (by unfold cE;rw [Υ hn0,Υ (by omega),Υ (by omega),Υ (by omega),Υ (by omega),Υ (by omega),Υ (by omega),Χ (by omega),Υ (by rw [gd,ht];decide)]) rfl rfl h3 h
 ·exact fin (p':=p) (am _) (by unfold cE;rw [Υ hn0,Υ (by omega),Υ (by omega),Υ (by omega),Υ (by omega),Υ (by omega),Υ (by omega),Υ (by omega)]) rfl rfl h3 h
theorem fY {b e n:Nat} {H:PH} (h:H b=Y3 (Y4 #[] e)):own (Zj (Y3 (Zc b 0 Y5)) 0 0) e n [] H:=.inr ⟨b,#[],rfl,h,by simp,W8 _,by simp,by simp⟩
section
variable {α:Type} [Mem α] {G F:PH} {As:List (Ψ)} {t e bytes n:Nat} {z:ξ} {x:List α} {y:α} {sx:Sl} {w:Γ}
theorem St.grow2 (T:SlT t e (Mem.n α) bytes z) {vs:List Γ} {s:Sl} (h:St G F (own s e (Mem.n α) (cat vs)::As)) (hr:cZ G x vs) (hy:Mem.rep G y w) {sw:Sl} (hw:RdS G sw (Mem.n α) w.toList) (hs:s.len=x.length) (hsw:sw.len=1) (hl:x.length<=1000000) {C:Sl->Ψ}
  (k:∀s' G' F',G.le G'->RL G' s' (x++[y])->St G' F' As->C s' F'):
  aF prog (Builtin.append_ #[t,t] t #[Y7 s,Y7 sw]) F λv F=>∃s2:Sl,v=Y7 s2/\C s2 F:=by
 refine h.app0 T (hw.le h.le) (Mem.st hy) (by omega) λs2 F2 h2 hl2=> ?_;refine h2.pinOwn (K:=C s2) λG2 l2 hrd h3=>k s2 G2 F2 l2 ⟨vs++[w],(hr.le l2).append (.cons (Mem.le l2 hy) .nil),?_⟩ h3;rw [bY,cJ];exact hrd
theorem zw {b:Nat} (q:G b=Y3 (Y4 w e)) (hw:w.size=n):RdS G (Zj (Y3 (Zc b 0 Y5)) 1 1) n w.toList:=RdS.new q (Xf (by rw [Xb,hw,YA];exact W8 _)) (by rw [Xb,hw,YA]) (W8 _)
theorem St.grow (T:SlT t e (Mem.n α) bytes z) (h:St G F As) (hx:RL G sx x) (hy:Mem.rep G y w) (hl:x.length<=1000000) (hn:Mem.n α=n) {Q:Ψ} (hq:∀G' F',St G' F' As->Q F') {C:Sl->Ψ}
    (k:∀s' G' F',G.le G'->RL G' s' (x++[y])->St G' F' As->C s' F'):
    ((∀b1,F b1=Y5->atF (F.set b1 (Y4 #[] e)) λF=>
      ((aF prog (Builtin.append_ #[t,t] t #[Y7 (Zj (Y3 (Zc b1 0 Y5)) 0 0),Y7 sx]) F λv F=>∃s1:Sl,v=Y7 s1/\Q F/\w.size=n/\∀b2,F b2=Y5->atF (F.set b2 (Y4 w e)) λF=>
        aF prog (Builtin.append_ #[t,t] t #[Y7 s1,Y7 (Zj (Y3 (Zc b2 0 Y5)) 1 1)]) F λv F=>∃s2:Sl,v=Y7 s2/\C s2 F)/\
       (w.size=n/\∀b2,F b2=Y5->atF (F.set b2 (Y4 w e)) λF=>
        aF prog (Builtin.append_ #[t,t] t #[Y7 (Zj (Y3 (Zc b1 0 Y5)) 0 0),Y7 sx]) F λv F=>∃s1:Sl,v=Y7 s1/\
        aF prog (Builtin.append_ #[t,t] t #[Y7 s1,Y7 (Zj (Y3 (Zc b2 0 Y5)) 1 1)]) F λv F=>∃s2:Sl,v=Y7 s2/\C s2 F)))/\
     (w.size=n/\∀b2,F b2=Y5->atF (F.set b2 (Y4 w e)) λF=>∀b1,F b1=Y5->atF (F.set b1 (Y4 #[] e)) λF=>
        aF prog (Builtin.append_ #[t,t] t #[Y7 (Zj (Y3 (Zc b1 0 Y5)) 0 0),Y7 sx]) F λv F=>∃s1:Sl,v=Y7 s1/\
        aF prog (Builtin.append_ #[t,t] t #[Y7 s1,Y7 (Zj (Y3 (Zc b2 0 Y5)) 1 1)]) F λv F=>∃s2:Sl,v=Y7 s2/\C s2 F)):=by
  subst hn;have hsx:=hx.len T.hn;obtain ⟨vs,hr,hrd⟩:=hx;have hwn:=Mem.len hy;have e0:∀s1:Sl,s1.len=(Zj (Y3 (Zc 0 0 Y5)) 0 0).len+sx.len->s1.len=x.length:=λs1 h=>by rw [h];show 0+sx.len=_;omega
  refine ⟨?_,?_⟩
  · refine h.new λb1 F1 h=> ?_
    have h:=h.imp (A':=own (Zj (Y3 (Zc b1 0 Y5)) 0 0) e (Mem.n α) []) 0 rfl λH _ hH=>fY hH;refine ⟨?_,hwn,?_⟩
    · refine St.app0 T h (hrd.le h.le) hr.st (by show 0+sx.len<=_;omega) λs1 F2 h hl1=>⟨hq _ _ h.tail,hwn,?_⟩
      rw [XM] at h;refine h.newG λb2 G2 F3 l2 q _ h=> ?_;exact St.grow2 T h (hr.le l2) (Mem.le l2 hy) (zw q hwn) (e0 s1 hl1) rfl hl λs' G' F' l'=>k s' G' F' (aa l2 l')
    · refine h.newG λb2 G2 F3 l2 q _ h=> ?_
      refine St.app0 T h ((hrd.le l2).le h.le) hr.st (by show 0+sx.len<=_;omega) λs1 F2 h hl1=> ?_;rw [XM] at h;exact St.grow2 T h (hr.le l2) (Mem.le l2 hy) (zw q hwn) (e0 s1 hl1) rfl hl λs' G' F' l'=>k s' G' F' (aa l2 l')
  · refine ⟨hwn,?_⟩
    refine h.newG λb2 G2 F3 l2 q _ h=> ?_;refine h.new λb1 F1 h=> ?_;have h:=h.imp (A':=own (Zj (Y3 (Zc b1 0 Y5)) 0 0) e (Mem.n α) []) 0 rfl λH _ hH=>fY hH;refine St.app0 T h ((hrd.le l2).le h.le) hr.st (by show 0+sx.len<=_;omega) λs1 F2 h hl1=> ?_;rw [XM] at h;exact St.grow2 T h (hr.le l2) (Mem.le l2 hy) (zw q hwn) (e0 s1 hl1) rfl hl λs' G' F' l'=>k s' G' F' (aa l2 l')
end
theorem iA {F:PH} {P:Program} {b n:Nat} {e:TypeId} (q:F b=Y3 (Y4 #[vB n] e)):rdo P (Conv.bytesToString (Y7 (Zj (Y3 (Zc b 0 Y5)) 1 1))) F (Zg ⟨#[UInt8.ofNat n]⟩):=by
 have h:RdS F (Zj (Y3 (Zc b 0 Y5)) 1 1) 1 [vB n]:=RdS.new q rfl rfl (W8 _);unfold Conv.bytesToString Y7;simp only [aj];refine ⟨#[vB n],?_,?_⟩
 ·have hr:=h.row (a:=Zc b 0 Y5) rfl 0 #[vB n] (by simp);rw [show (Zc b 0 Y5).add 0=Zc b 0 Y5 from rfl] at hr;exact fm (P:=P) hr
 ·refine ⟨ByteArray.empty.push (UInt8.ofNat n),?_,?_⟩
  ·rw [<- Array.forIn_toList];simp []
  ·show (Zg _)=_;simp [ByteArray.empty,ByteArray.emptyWithCapacity,ByteArray.push];rfl
structure Ln where
 left:Nat
 right:Δ
 cond:Nat
 mark:Nat
instance:Mem Ln where
 n:=4
 rep F x c:=∃r:Sl,c= #[vB x.left,r.v,vB x.cond,vB x.mark]/\RdS F r 1 (x.right.map vB)/\x.left<256/\x.cond<256/\x.mark<256/\∀y∈x.right,y<256
 len h:=by obtain ⟨r,rfl,_⟩:=h;rfl
 le hl h:=by obtain ⟨r,h1,h2,h3⟩:=h;exact ⟨r,h1,h2.le hl,h3⟩
 st h:=by obtain ⟨r,rfl,_⟩:=h;simp [ak,Y7]
theorem kM (nm:ο) (left:Int) {s:Sl} {F:PH}:ν 81 #[Zg nm,vi left,s.v] F λr F'=>(∃n,r=Y9 ((bE nm left []).arr s n Zi)/\RL F' n aK.1)/\F.le F':=by refine QU ?_;unfold Oc;refine (St.start F).new λb F1 h=> ?_;refine h.run (ga _) λ_ G F2 hr l h=> ?_;obtain ⟨w,rfl,hw⟩:=hr;obtain ⟨n,rfl,hn⟩:=hw.out;refine ⟨_,rfl,rfl,?_⟩;refine h.put0 (w':=(bE nm left []).arr s n Zi) rfl rfl (by simp [ak,Y7]) λF2 h=> ?_;exact ⟨_,rfl,h.whole0,⟨n,rfl,hn.le h.le⟩,aa l h.le⟩
def lu (nn b:Nat):Sy:=if b % 14<9 then ⟨Y8,((b % 14:Nat):Int)⟩ else ⟨Y6,(((b % 14 - 9) % nn:Nat):Int)⟩
def aM (nn:Nat) (x:Ln):List Sy:=(x.right.take 4).map (lu nn)
def dO (l:List Sy):Nat:=(l.filter (·.t)).length
def de (left:Nat) (l:List Sy):Bool:=l.all λs=>s.t || decide ((left:Int)<s.i)
def be (k:Nat):ο:=⟨#[112]⟩++⟨#[UInt8.ofNat (97+k)]⟩
def jq (g:Gr) (x:Ln):Pr:={bE (be g.YV.length) ((x.left % g.YW.length:Nat):Int) (aM g.YW.length x) with cond:=dia (jc x.cond g.YY.length)}
def lineG (g:Gr) (x:Ln) (cq:Bool):Gr:=
 if dO (aM g.YW.length x)=0/\(cq=Y8\/de (x.left % g.YW.length) (aM g.YW.length x)=Y6) then g
 else {g with YV:=g.YV++[cE (jq g x) x.mark]}
theorem gb (a b:Nat):Zk (a:Int) (b:Int)=((a % b:Nat):Int):=by rw [XX (by omega)];exact (Int.natCast_emod _ _).symm
theorem og (l:List Sy) (s:Sy):dO (l++[s])=dO l+if s.t=Y8 then 1 else 0:=by unfold dO;rw [List.filter_append,Xa];congr 1;cases h:s.t<;>simp [h]
theorem lw (left:Nat) (l:List Sy) (s:Sy):de left (l++[s])=(de left l && (s.t || decide ((left:Int)<s.i))):=by simp [de]
theorem DS {G:PH} (l:List Sy):cZ G l (l.map Sy.arr):=by
 induction l with
 |nil=>exact .nil
 |cons x l ih=>exact .cons rfl ih
structure LK (F G:PH) (b4:Nat) (g:Gr) (x:Ln) (c n t s sp l f rx n0:Sl):Prop where
 lF:F.le G
 q4:G b4=Y3 (Y4 #[vB x.left,rx.v,vB x.cond,vB x.mark] 91)
 gs:GS G g c n t s sp l f
 rr:RdS G rx 1 (x.right.map vB)
 n0:RL G n0 aK.1
theorem LK.le {F G G':PH} {b4:Nat} {g:Gr} {x:Ln} {c n t s sp l f rx n0:Sl} (h:LK F G b4 g x c n t s sp l f rx n0) (hl:G.le G'):LK F G' b4 g x c n t s sp l f rx n0:=
 ⟨aa h.lF hl,hl _ _ h.q4,h.gs.le hl,h.rr.le hl,h.n0.le hl⟩
section
variable {F G F1:PH} {b3 b4 b6 b8:Nat} {g:Gr} {x:Ln} {c n t s sp l f rx n0 sr:Sl} {cq:Bool}
abbrev LR (F:PH) (g':Gr):VR:=λr F'=>(∃w,r=Y9 w/\GV F' w g')/\F.le F'
theorem Jr {g':Gr} {sp':Sl} (hF:F.le G) (hg:GS G g' c n t s sp' l f) (st:St G F1 [pt b6 (Y4 zG 37),pt b3 (Y4 (g'.arr c n t s sp' l f) 37)]):ra b3 b6 (LR F g') F1:=by unfold ra;refine ⟨_,rfl,st.whole1,?_⟩;refine st.put0 (w':=g'.arr c n t s sp' l f) rfl rfl (by simp [ak,Y7]) λF3 h=> ?_;exact ⟨_,rfl,h.whole0,⟨_,rfl,c,n,t,s,sp',l,f,rfl,hg.le h.le⟩,aa hF h.le⟩
theorem FB (K:LK F G b4 g x c n t s sp l f rx n0) (hn:g.YY.length<=6) (hp:g.YV.length<=1000) (h4:x.cond<256) (h5:x.mark<256) (hsr:RL G sr (aM g.YW.length x))
  (st:St G F1 [pt b8 (Y4 ((bE (be g.YV.length) ((x.left % g.YW.length:Nat):Int) []).arr sr n0 Zi) 55),pt b6 (Y4 zG 37),pt b3 (Y4 (g.arr c n t s sp l f) 37)]):
  gL b3 b4 b6 (Y3 (Zc b8 0 Y5)) Y6 (LR F {g with YV:=g.YV++[cE (jq g x) x.mark]}) F1:=by
 obtain ⟨_,_,T⟩:=Ob;unfold gL;refine ⟨λhc=>(by cases hc),λ_=> ?_⟩;have ec:=K.gs.c.len;refine ⟨_,ld (st.le _ _ K.q4) rfl,_,st.ld2 rfl,?_⟩;dsimp only;rw [ec];refine st.run (qK x.cond g.YY.length h4 hn _) λ_ G2 F2 hr l2 st=> ?_;obtain ⟨⟨_,rfl,hw⟩,-⟩:=hr;obtain ⟨m,rfl,hm⟩:=hw.out;have K:=K.le l2;have hsr:=hsr.le l2;refine ⟨_,rfl,_,rfl,?_⟩;simp only [aE];refine st.putR0 (o:=3) (w':=(jq g x).arr sr m Zi) rfl (by simp [ak,Y7]) (by show 3+2<=13;decide) rfl λF3 st=> ?_;refine ⟨_,rfl,st.whole0,_,ld (st.le _ _ K.q4) rfl,?_⟩;refine st.run (xG (p:=jq g x) (m:=x.mark) ⟨sr,m,Zi,rfl,hsr,hm,.nil _⟩ h5 (by show (aM _ _).length<=1000;unfold aM;rw [Xd,Xe];omega)) λ_ G3 F4 hr l3 st=> ?_;obtain ⟨w,rfl,hw⟩:=hr;have K:=K.le l3;refine ⟨w,rfl,?_⟩;refine st.put0 (w':=w) (Mem.len hw) rfl (Mem.st hw) λF5 st=> ?_;refine ⟨_,st.ld2 rfl,w,Mem.len hw,st.whole0,?_⟩;refine St.grow T st K.gs.p hw (by omega) rfl (λG' F' st=>st.whole0) λs' G' F' l' hs' st=> ?_;have K:=K.le l';refine st.set2 (w':=Gr.arr {g with YV:=g.YV++[cE (jq g x) x.mark]} c n t s s' l f) (Zn rfl) rfl λF6 st=> ?_;exact Jr (g':={g with YV:=g.YV++[cE (jq g x) x.mark]}) (sp':=s') K.lF ⟨K.gs.c,K.gs.n,K.gs.t,K.gs.s,hs',K.gs.l,K.gs.f⟩ st.tail
theorem FC {p8:Θ} (K:LK F G b4 g x c n t s sp l f rx n0) (st:St G F1 [pt b6 (Y4 zG 37),pt b3 (Y4 (g.arr c n t s sp l f) 37)]):gL b3 b4 b6 p8 Y8 (LR F g) F1:=by unfold gL;refine ⟨λ_=> ?_,λhc=>(by cases hc)⟩;refine ⟨_,rfl,st.whole1,?_⟩;refine st.put0 (w':=g.arr c n t s sp l f) rfl rfl (by simp [ak,Y7]) λF3 h=> ?_;exact ⟨_,rfl,h.whole0,⟨_,rfl,c,n,t,s,sp,l,f,rfl,K.gs.le h.le⟩,aa K.lF h.le⟩
theorem Js (K:LK F G b4 g x c n t s sp l f rx n0) (hn:g.YY.length<=6) (hp:g.YV.length<=1000) (h4:x.cond<256) (h5:x.mark<256) {tk:Int} {later:Bool} (htk:tk=((dO (aM g.YW.length x):Nat):Int)) (hla:later=de (x.left % g.YW.length) (aM g.YW.length x))
  (st:St G F1 [pt b8 (Y4 ((bE (be g.YV.length) ((x.left % g.YW.length:Nat):Int) []).arr sr n0 Zi) 55),own sr 63 2 (cat ((aM g.YW.length x).map Sy.arr)),pt b6 (Y4 zG 37),pt b3 (Y4 (g.arr c n t s sp l f) 37)]):
  rb cq b3 b4 b6 (Y3 (Zc b8 0 Y5)) tk later (LR F (lineG g x cq)) F1:=by
 unfold rb;have bad:dO (aM g.YW.length x)=0/\(cq=Y8\/de (x.left % g.YW.length) (aM g.YW.length x)=Y6)->gL b3 b4 b6 (Y3 (Zc b8 0 Y5)) Y8 (LR F (lineG g x cq)) F1:=λhc=>by
  have e:lineG g x cq=g:=by unfold lineG;rw [Χ hc]
  rw [e];exact FC K st.tail.tail
 have good:¬(dO (aM g.YW.length x)=0/\(cq=Y8\/de (x.left % g.YW.length) (aM g.YW.length x)=Y6))->gL b3 b4 b6 (Y3 (Zc b8 0 Y5)) Y6 (LR F (lineG g x cq)) F1:=λhc=>by
  have e:lineG g x cq={g with YV:=g.YV++[cE (jq g x) x.mark]}:=by unfold lineG;rw [Υ hc]
  rw [e];refine st.front1.pinOwn (K:=λF1=>gL b3 b4 b6 (Y3 (Zc b8 0 Y5)) Y6 (LR F {g with YV:=g.YV++[cE (jq g x) x.mark]}) F1) λG' lg hrd st=> ?_;exact FB (K.le lg) hn hp h4 h5 ⟨_,DS _,hrd⟩ st
 refine ⟨λh0=>⟨λhk=>bad ⟨by omega,.inl hk⟩,λhk=> ?_⟩,λh0=>good λhc=>h0 (by rw [htk,hc.1];rfl)⟩;cases hl':later with
 |true=>refine good λhc=> ?_;rw [<- hla,hl',hk] at hc;simp at hc
 |false=>exact bad ⟨by omega,.inr (by rw [<- hla,hl'])⟩
end
theorem xH (l:List Sy) (y:Sy):cat (l.map Sy.arr)++y.arr.toList=cat ((l++[y]).map Sy.arr):=by rw [Xt,bY,Xw,List.map_nil,cJ]
section
variable {F G F1:PH} {b3 b4 b6 b8:Nat} {g:Gr} {x:Ln} {c n t s sp l f rx n0 sr:Sl} {cq:Bool}
theorem Jt (K:LK F G b4 g x c n t s sp l f rx n0) (hn:g.YY.length<=6) (hp:g.YV.length<=1000) (h4:x.cond<256) (h5:x.mark<256) (h6:∀y∈x.right,y<256) (hn0:g.YW.length≠0) (_:g.YW.length<=1000000)
  (st:St G F1 [pt b8 (Y4 ((bE (be g.YV.length) ((x.left % g.YW.length:Nat):Int) []).arr Zi n0 Zi) 55),pt b6 (Y4 zG 37),pt b3 (Y4 (g.arr c n t s sp l f) 37)]):
  ny cq b3 b4 b6 s (Y3 (Zc b8 0 Y5)) (LR F (lineG g x cq)) F1:=by
 obtain ⟨_,_,T⟩:=VF;have es:=K.gs.s.len;have er:=K.rr.len;rw [Xd,Xz] at er;unfold ny;have hL:(aM g.YW.length x).length=min 4 x.right.length:=by unfold aM;rw [Xd,Xe]
 refine ⟨λm tk la i F'=>∃(k:Nat) (G':PH) (sr:Sl),i=k/\k<=(aM g.YW.length x).length/\m=4 - k/\tk=((dO ((aM g.YW.length x).take k):Nat):Int)/\la=de (x.left % g.YW.length) ((aM g.YW.length x).take k)/\LK F G' b4 g x c n t s sp l f rx n0/\sr.len=k/\
  St G' F' [pt b8 (Y4 ((bE (be g.YV.length) ((x.left % g.YW.length:Nat):Int) []).arr sr n0 Zi) 55),own sr 63 2 (cat (((aM g.YW.length x).take k).map Sy.arr)),pt b6 (Y4 zG 37),pt b3 (Y4 (g.arr c n t s sp l f) 37)],4,
  ⟨0,G,Zi,rfl,Yz _,rfl,rfl,rfl,K,rfl,(st.nilOwn 63 2).swap⟩,?_⟩
 rintro m tk la i F' ⟨k,G',sr,rfl,hk,rfl,rfl,rfl,K,hsr,st⟩;unfold FH;have done:k=(aM g.YW.length x).length->rb cq b3 b4 b6 (Y3 (Zc b8 0 Y5)) ((dO ((aM g.YW.length x).take k):Nat):Int) (de (x.left % g.YW.length) ((aM g.YW.length x).take k)) (LR F (lineG g x cq)) F':=λe=>by rw [e,Xg] at st ⊢;exact Js K hn hp h4 h5 rfl rfl st
 refine ⟨_,ld (st.le _ _ K.q4) rfl,λhlt=>⟨λh4'=> ?_,λh4'=>done (by omega)⟩,λhlt=>done (by omega)⟩;have hkr:k<x.right.length:=by omega
 have hkl:k<(aM g.YW.length x).length:=by omega
 obtain ⟨ab,ao,hab,_⟩:=K.rr.cells (by omega);have hcell:=(K.rr.le st.le).cell hab (i:=k) (by rw [Xd];exact hkr);rw [List.getElem_map] at hcell;have hy6:x.right[k]<256:=h6 _ (X2 hkr);have hsym:(aM g.YW.length x)[k]? =Y3 (lu g.YW.length x.right[k]):=by unfold aM;rw [Xj,XG (by omega),N5 hkr];rfl
 have htake:(aM g.YW.length x).take (k+1)=(aM g.YW.length x).take k++[lu g.YW.length x.right[k]]:=by rw [XL,hsym];rfl
 generalize x.right[k]=y at*;have ey:Zk (i64.wrap (y:Int)) (14:Int)=((y % 14:Nat):Int):=by rw [aP (by omega)];exact gb y 14
 refine ⟨_,ld (st.le _ _ K.q4) rfl,_,hab,by omega,hlt,(y:Int),by rw [N4,Xz];exact hcell,?_⟩;dsimp only;rw [ey];have hk1:i64.wrap ((k:Int)+1)=((k+1:Nat):Int):=aA (n:=4) (by omega) (by decide);have htl:dO ((aM g.YW.length x).take k)<=4:=X4 (List.length_filter_le _ _) (by rw [Xe];omega);refine ⟨λh9=> ?_,λh9=> ?_⟩
 ·have esy:lu g.YW.length y=⟨Y8,((y % 14:Nat):Int)⟩:=by unfold lu;rw [Χ (by omega)]
  refine ⟨_,rfl,?_⟩;simp only [aE];refine ⟨sr,st.ld0 rfl,?_⟩;refine st.runv (kL _ _) λG2 F2 l2 st=> ?_;refine ⟨_,rfl,st.ld0 rfl,rfl,?_⟩;refine st.push1 T (c:=Sy.arr ⟨Y8,((y % 14:Nat):Int)⟩) rfl (by simp [ak]) (by omega) λs' G3 F3 l3 st hl'=> ?_;rw [xH,<- esy,<- htake] at st;refine st.set0 (w':=(bE (be g.YV.length) ((x.left % g.YW.length:Nat):Int) []).arr s' n0 Zi) (Zn rfl) rfl λF4 st=> ?_;unfold rc;rw [hk1];refine ⟨4 - (k+1),by omega,k+1,G3,s',rfl,by omega,rfl,?_,?_,K.le (aa l2 l3),by omega,st⟩
  ·rw [htake,og,esy,aP (by omega)];rfl
  ·rw [htake,lw,esy];simp
 ·have hnn:y % 14 - 9<5:=by omega
  have ez:Zk (i64.wrap (((y % 14:Nat):Int) - (9:Int))) (s.len:Int)=(((y % 14 - 9) % g.YW.length:Nat):Int):=by rw [es,show ((y % 14:Nat):Int) - 9=((y % 14 - 9:Nat):Int) by omega,aP (by omega),gb]
  have esy:lu g.YW.length y=⟨Y6,(((y % 14 - 9) % g.YW.length:Nat):Int)⟩:=by unfold lu;rw [Υ (by omega)]
  refine ⟨_,rfl,?_⟩;simp only [aE];rw [ez];refine ⟨sr,st.ld0 rfl,by omega,?_⟩;refine st.runv (iz _ _) λG2 F2 l2 st=> ?_;refine ⟨_,rfl,st.ld0 rfl,rfl,?_⟩;refine st.push1 T (c:=Sy.arr ⟨Y6,(((y % 14 - 9) % g.YW.length:Nat):Int)⟩) rfl (by simp [ak]) (by omega) λs' G3 F3 l3 st hl'=> ?_;rw [xH,<- esy,<- htake] at st;refine st.set0 (w':=(bE (be g.YV.length) ((x.left % g.YW.length:Nat):Int) []).arr s' n0 Zi) (Zn rfl) rfl λF4 st=> ?_;have etk:((dO ((aM g.YW.length x).take k):Nat):Int)=((dO ((aM g.YW.length x).take (k+1)):Nat):Int):=by rw [htake,og,esy];rfl
  have ela:de (x.left % g.YW.length) ((aM g.YW.length x).take (k+1))=(de (x.left % g.YW.length) ((aM g.YW.length x).take k) && decide (((x.left % g.YW.length:Nat):Int)<(((y % 14 - 9) % g.YW.length:Nat):Int))):=by rw [htake,lw,esy];simp
  unfold rc;rw [hk1];refine ⟨λhla=>⟨by omega,((x.left % g.YW.length:Nat):Int),st.ld0 rfl,4 - (k+1),by omega,k+1,G3,s',rfl,by omega,rfl,etk,?_,K.le (aa l2 l3),by omega,st⟩,λhla=>⟨4 - (k+1),by omega,k+1,G3,s',rfl,by omega,rfl,etk,?_,K.le (aa l2 l3),by omega,st⟩⟩
  ·rw [ela,hla,Yp]
  ·rw [ela,hla,Bool.false_and]
end
theorem DT {F:PH} {w v:Γ} {g:Gr} {x:Ln} {cq:Bool} (hg:GV F w g) (hx:Mem.rep F x v) (hn:g.YY.length<=6) (hp:g.YV.length<=150) (hn0:g.YW.length≠0) (hn1:g.YW.length<=1000000):
  ν 83 #[Y9 w,Y9 v,Za cq] F (LR F (lineG g x cq)):=by
 obtain ⟨c,n,t,s,sp,l,f,rfl,hs⟩:=hg;obtain ⟨rx,rfl,hr,h3,h4,h5,h6⟩:=hx;have es:=hs.s.len;have ep:=hs.p.len;refine VQ ?_;unfold QV;refine (St.start F).new λb3 F1 st=> ?_;refine st.newG λb4 G1 F2 l1 q4 _ st=> ?_;refine st.new λb6 F3 st=> ?_;have ec:u8.wrap (i64.wrap ((97:Int)+(sp.len:Int)))=((97+g.YV.length:Nat):Int):=by rw [ep,show (97:Int)+((g.YV.length:Nat):Int)=((97+g.YV.length:Nat):Int) by omega,aP (by omega),xF (by omega)]
 have el:Zk (i64.wrap (x.left:Int)) (s.len:Int)=((x.left % g.YW.length:Nat):Int):=by rw [es,aP (by omega),gb]
 refine ⟨_,st.ld1 rfl,_,st.ld1 rfl,_,ld (st.le _ _ q4) rfl,by omega,?_⟩;rw [ec,el];have fin:∀{G F':PH} {b8:Nat} {n0:Sl},G1.le G->RL G n0 aK.1->St G F' [pt b8 (Y4 ((bE (be g.YV.length) ((x.left % g.YW.length:Nat):Int) []).arr Zi n0 Zi) 55),pt b6 (Y4 zG 37),pt b3 (Y4 (g.arr c n t s sp l f) 37)]->
   ny cq b3 b4 b6 s (Y3 (Zc b8 0 Y5)) (LR F (lineG g x cq)) F':=λ{G F' b8 n0} hl h0 st=>
  Jt ⟨aa l1 hl,hl _ _ q4,hs.le (aa l1 hl),hr.le (aa l1 hl),h0⟩ hn (by omega) h4 h5 h6 hn0 hn1 st
 have sz2:(ByteArray.mk #[112]).size+(ByteArray.mk #[UInt8.ofNat (97+g.YV.length)]).size<=9223372036854775807:=by show 1+1<=9223372036854775807;decide
 refine ⟨?_,?_⟩
 ·refine st.newG λb21 G2 F4 l2 q21 _ st=> ?_;refine ⟨_,iA (st.le _ _ q21),sz2,?_,?_⟩
  ·refine st.run (kM (be g.YV.length) _) λ_ G3 F5 hr3 l3 st=> ?_;obtain ⟨n0,rfl,h0⟩:=hr3;refine ⟨_,rfl,iA (st.le _ _ (l3 _ _ q21)),ld (st.le _ _ (l3 _ _ (l2 _ _ q4))) rfl,st.ld1 rfl,?_⟩;refine st.new λb8 F6 st=> ?_;refine st.put0 (w':=(bE (be g.YV.length) ((x.left % g.YW.length:Nat):Int) []).arr Zi n0 Zi) rfl rfl (by simp [ak,Y7]) λF7 st=> ?_;exact fin (aa l2 l3) h0 st
  ·refine st.new λb8 F6 st=> ?_;refine st.run (kM (be g.YV.length) _) λ_ G3 F5 hr3 l3 st=> ?_;obtain ⟨n0,rfl,h0⟩:=hr3;refine ⟨_,rfl,iA (st.le _ _ (l3 _ _ q21)),ld (st.le _ _ (l3 _ _ (l2 _ _ q4))) rfl,st.ld2 rfl,?_⟩;refine st.put0 (w':=(bE (be g.YV.length) ((x.left % g.YW.length:Nat):Int) []).arr Zi n0 Zi) rfl rfl (by simp [ak,Y7]) λF7 st=> ?_;exact fin (aa l2 l3) h0 st
 ·refine st.new λb8 F6 st=> ?_;refine st.newG λb21 G2 F4 l2 q21 _ st=> ?_;refine ⟨_,iA (st.le _ _ q21),sz2,?_⟩;refine st.run (kM (be g.YV.length) _) λ_ G3 F5 hr3 l3 st=> ?_;obtain ⟨n0,rfl,h0⟩:=hr3;refine ⟨_,rfl,iA (st.le _ _ (l3 _ _ q21)),ld (st.le _ _ (l3 _ _ (l2 _ _ q4))) rfl,st.ld2 rfl,?_⟩;refine st.put0 (w':=(bE (be g.YV.length) ((x.left % g.YW.length:Nat):Int) []).arr Zi n0 Zi) rfl rfl (by simp [ak,Y7]) λF7 st=> ?_;exact fin (aa l2 l3) h0 st
theorem jr {F:PH} {v:Γ} {d:Dia} {n:Nat} (hd:DV F v d) (hf:Fit (d.1.length+4)) (hl:d.1.length<=1000000):ν 166 #[Y9 v,vi n] F λr F'=>r=Za (qQ d n)/\F.le F':=by
 obtain ⟨s,rfl,hr⟩:=hd.out;refine Rj ?_;unfold L8;refine (St.start F).newG λb2 G1 F1 l1 q1 _ h=> ?_;refine ⟨_,rfl,ac (h.le _ _ q1),?_⟩;refine h.runv (D4 (DV.mk (hr.le l1)) hf) λG2 F2 l2 h=> ?_;have l12:=aa l1 l2;have er:=hr.len;refine ⟨_,rfl,λhc=>⟨?_,aa l12 h.le⟩,λhc=> ?_⟩
 ·have:qQ d n=Y6:=vC.2 λhg=>hc hg.1;rw [this]
 have hc:chk d=0:=Classical.not_not.1 hc;refine bh (vY · (n:Int) b2 _) d.1.length (λk F'=>G2.le F'/\∀b∈d.1.take k,b.v<n) ⟨h.le,by simp⟩ ?_;rintro k F3 N hk ⟨l3,hall⟩ next;unfold vY;have p1:=l3 _ _ (l2 _ _ q1);have l13:=aa l12 l3;refine ⟨_,ld p1 rfl,λhlt=>⟨_,ld p1 rfl,ixc (hr.le l13) (by decide) (by omega) hlt λa cc x hx hrow hcx=> ?_⟩,λhge=> ?_⟩
 ·rw [N4] at hx;rw [show cc=aZ x from hcx] at hrow;refine ⟨x.v,aQ hrow rfl,λhb=>⟨?_,l13⟩,λhb=> ?_⟩
  ·have:qQ d n=Y6:=vC.2 λhg=>by have:=hg.2 x (W7 hx);omega
   rw [this]
  ·rw [aA (n:=d.1.length) (by omega) (by omega)];refine next _ (by omega) ⟨l3,λb hb'=> ?_⟩;rw [aO hx] at hb';rcases W9.1 hb' with h|h
   ·exact hall b h
   ·rw [W5.1 h];omega
 ·have e:k=d.1.length:=by omega
  subst e;rw [Xg] at hall;unfold BZ;exact ⟨by rw [bD.2 ⟨hc,hall⟩],l13⟩
def gK (x:Fi):Prop:=((x.k=1\/x.k=2)\/(x.par=0/\x.pos=0/\x.ch=0))/\((x.k=1\/x.k=2)->x.YX=[])/\((x.k=3\/x.k=4)\/x.left=0)/\(x.k=5\/x.tok=0)
open Classical in
theorem DU {F:PH} {w:Γ} {x:Fi} (hx:Mem.rep F x w):ν 176 #[Y9 w] F λr F'=>r=Za (decide (gK x))/\F.le F':=by
 obtain ⟨tt,nn,rfl,ht,_⟩:=hx;have et:=ht.len;refine Rq ?_;unfold Me;refine fresh λb1 F1 l1 q _=> ?_;have R:∀{b:Bool},(b=Y8↔gK x)->(Za b=Za (decide (gK x))/\F.le F1):=λ{b} h=>⟨by congr 1;rw [Xc,h,δ],l1⟩;have no:¬gK x->(Za Y6=Za (decide (gK x))/\F.le F1):=λh=>R ⟨λh=>(by cases h),λhp=>absurd hp h⟩;have tl:(x.YX=[])↔¬(0:Int)<(tt.len:Int):=by
  rw [et];constructor
  ·intro h;rw [h];simp
  ·intro h;exact Xp (by omega)
 have j3:∀beside:Bool,(beside=Y8↔(x.k=3\/x.k=4))->((x.k=1\/x.k=2)\/(x.par=0/\x.pos=0/\x.ch=0))->((x.k=1\/x.k=2)->x.YX=[])->
   pD b1 beside (λr F'=>r=Za (decide (gK x))/\F.le F') F1:=λbeside hb h1 h2=>by
  unfold pD;refine ⟨λhb1=>⟨_,ld q rfl,λh5=>R ⟨λ_=>⟨h1,h2,.inl (hb.1 hb1),.inl h5⟩,λ_=>rfl⟩,λh5=>⟨_,ld q rfl,R ?_⟩⟩,λhb1=>⟨_,ld q rfl,λh0=>⟨_,ld q rfl,λh5=>R ⟨λ_=>⟨h1,h2,.inr h0,.inl h5⟩,λ_=>rfl⟩,λh5=>⟨_,ld q rfl,R ?_⟩⟩,λh0=>no λhp=> ?_⟩⟩
  ·rw [δ];exact ⟨λh=>⟨h1,h2,.inl (hb.1 hb1),.inr h⟩,λhp=>hp.2.2.2.resolve_left h5⟩
  ·rw [δ];exact ⟨λh=>⟨h1,h2,.inr h0,.inr h⟩,λhp=>hp.2.2.2.resolve_left h5⟩
  ·rcases hp.2.2.1 with h|h
   ·rw [hb.2 h] at hb1;cases hb1
   ·exact h0 h
 have j2:((x.k=1\/x.k=2)\/(x.par=0/\x.pos=0/\x.ch=0))->((x.k=1\/x.k=2)->x.YX=[])->jP b1 (λr F'=>r=Za (decide (gK x))/\F.le F') F1:=λh1 h2=>by unfold jP;refine ⟨_,ld q rfl,λh3=>j3 Y8 ⟨λ_=> .inl h3,λ_=>rfl⟩ h1 h2,λh3=>⟨_,ld q rfl,j3 _ ?_ h1 h2⟩⟩;rw [δ];exact ⟨λh=> .inr h,λh=>h.resolve_left h3⟩
 have j1:∀pr:Bool,(pr=Y8↔(x.k=1\/x.k=2))->pE b1 pr (λr F'=>r=Za (decide (gK x))/\F.le F') F1:=λpr hpr=>by
  unfold pE;cases pr with
  |true=>have hk:=hpr.1 rfl;exact ⟨λh=>(by cases h),λ_=>⟨λ_=>⟨_,ld q rfl,λh=>no λhp=>tl.1 (hp.2.1 hk) h,λh=>j2 (.inl hk) λ_=>tl.2 h⟩,λh=>(by cases h)⟩⟩
  |false=>
   have hk:¬(x.k=1\/x.k=2):=λh=>by have:=hpr.2 h;cases this
   refine ⟨λ_=>⟨_,ld q rfl,λh=>no λhp=>h (hp.1.resolve_left hk).1,λh1=>⟨_,ld q rfl,λh=>no λhp=>h (hp.1.resolve_left hk).2.1,λh2=>⟨_,ld q rfl,λh=>no λhp=>h (hp.1.resolve_left hk).2.2,λh3=>⟨λh=>(by cases h),λ_=>j2 (.inr ⟨Classical.not_not.1 h1,Classical.not_not.1 h2,Classical.not_not.1 h3⟩) λh=>absurd h hk⟩⟩⟩⟩,λh=>(by cases h)⟩
 refine ⟨_,ld q rfl,λh=>j1 Y8 ⟨λ_=> .inl h,λ_=>rfl⟩,λh=>⟨_,ld q rfl,j1 _ ?_⟩⟩;rw [δ];exact ⟨λh=> .inr h,λh'=>h'.resolve_left h⟩
def kg (lit:Bool) (t:Tk):Bool:=if lit then !decide (t.lit=emp) else decide (t.cls=0)
open Classical in
theorem t5 {F:PH} {v:Γ} {g:Gr} (hg:GV F v g) {sl:Sl} {l:Φ} (hl:RL F sl l) (hll:l.length<=1000000000) (lit:Bool):ν 177 #[Y9 v,sl.v,Za lit] F λr F'=>r=Za (decide (gf g (kg lit) l))/\F.le F':=by
 obtain ⟨c,n,t,s,p,lv,f,rfl,hs⟩:=hg;have et:=hs.t.len;have el:=hl.len;refine Rs ?_;unfold Mf;refine fresh λb1 F1 l1 q1 _=> ?_;have hs:=hs.le l1;have hl:=hl.le l1;have no:∀{F':PH},F1.le F'->¬gf g (kg lit) l->(Za Y6=Za (decide (gf g (kg lit) l))/\F.le F'):=λ{F'} l h=>⟨by rw [ι h],aa l1 l⟩;refine bh (wa · sl lit b1 _) l.length (λj F'=>F1.le F'/\(∀n∈l.take j,0<=n/\∃t,g.YX[n.toNat]? =Y3 t/\kg lit t=Y8)/\∀(i:Nat) (x y:Int),i+1<j->l[i]? =Y3 x->l[i+1]? =Y3 y->x<y)
  ⟨am _,by simp,λi x y h=>by omega⟩ ?_
 rintro j F2 N hj ⟨l2,i1,i2⟩ next;unfold wa;refine ⟨λhlt=> ?_,λhge=> ?_⟩
 ·have hlt:j<l.length:=by omega
  have hx:=N5 hlt;generalize l[j]=x at hx;obtain ⟨a,cc,ha,hr,hc⟩:=(hl.le l2).get (by decide) hx;rw [show cc= #[vi x] from hc] at hr;have hcell:F2.cell (Zb a (Zd (j:Int)*1))=Y3 (vi x):=by rw [N4];exact aQ hr rfl
  have hxm:x∈l:=W7 hx;have p1:=l2 _ _ q1;have noR:¬(0<=x/\x<g.YX.length)->(Za Y6=Za (decide (gf g (kg lit) l))/\F.le F2):=λh=>no l2 λhp=>by obtain ⟨h0,t',ht,_⟩:=hp.2.1 x hxm;have:=(N6.1 ht).1;exact h ⟨h0,by omega⟩
  refine ⟨a,ha,by omega,by omega,x,hcell,λh=>noR (by omega),λx0=>⟨a,ha,by omega,by omega,x,hcell,_,ld p1 rfl,λh=>noR (by omega),λx1=> ?_⟩⟩;have body:(∀y,0<j->l[j - 1]? =Y3 y->y<x)->pG N sl lit b1 (j:Int) (λr F'=>r=Za (decide (gf g (kg lit) l))/\F.le F') F2:=λhprev=>by
   unfold pG;refine ⟨_,ld p1 rfl,a,ha,by omega,by omega,x,hcell,ixc (hs.t.le l2) (by decide) (by omega) (by omega) λa2 c2 y hy hr2 hc2=>⟨c2,Mem.len hc2,hr2,?_⟩⟩;refine var1 (Mem.st hc2) (λb F3 l3 q3=> ?_) rfl (Mem.len hc2);have l23:=aa l2 l3;obtain ⟨pp,nn,rfl,_,_⟩:=hc2;have bad:kg lit y=Y6->(Za Y6=Za (decide (gf g (kg lit) l))/\F.le F3):=λhk=>no l23 λhp=>by obtain ⟨h0,t',ht,hk'⟩:=hp.2.1 x hxm;rw [hy] at ht;cases ht;rw [hk'] at hk;cases hk
   have good:kg lit y=Y8->pF N sl lit b1 (j:Int) (λr F'=>r=Za (decide (gf g (kg lit) l))/\F.le F') F3:=λhk=>by
    unfold pF;rw [aA hlt];refine next _ hlt ⟨l23,λm hm=> ?_,λi u w hi hu hw=> ?_⟩
    ·rw [aO hx] at hm;rcases W9.1 hm with hm|hm
     ·exact i1 m hm
     ·rw [W5.1 hm];exact ⟨by omega,y,hy,hk⟩
    ·by_cases e:i+1<j
     ·exact i2 i u w e hu hw
     ·have e:j=i+1:=by omega
      subst e;rw [hx] at hw;cases hw;exact hprev u (by omega) hu
   refine ⟨λhlit=>⟨y.lit,ld q3 rfl,?_⟩,λhlit=>⟨y.cls,ld q3 rfl,λh=>bad (by unfold kg;rw [hlit];simpa using h),λh=>good (by unfold kg;rw [hlit];simpa using h)⟩⟩;dsimp only;rw [gY];exact ⟨λh=>bad (by unfold kg;rw [hlit];simpa using h),λh=>good (by unfold kg;rw [hlit];simpa using h)⟩
  refine ⟨λhj0=> ?_,λhj0=>body λy h=>by omega⟩;have hj0:0<j:=by omega
  have ew:i64.wrap ((j:Int) - 1)=((j - 1:Nat):Int):=by rw [aP (by omega)];omega
  rw [ew];have hy:=N5 (show j - 1<l.length by omega);generalize l[j - 1]=y at hy;obtain ⟨a',cc',ha',hr',hc'⟩:=(hl.le l2).get (by decide) hy;rw [show cc'= #[vi y] from hc'] at hr';refine ⟨a,ha,by omega,by omega,x,hcell,a',ha',by omega,by omega,y,by rw [N4];exact aQ hr' rfl,λh=>no l2 λhp=> ?_,λh=>body λz _ hz=> ?_⟩
  ·have:=hp.2.2 (j - 1) y x hy (by rw [show j - 1+1=j by omega];exact hx);omega
  ·rw [hy] at hz;cases hz;omega
 ·have e:j=l.length:=by omega
  subst e;rw [Xg] at i1;unfold B2;refine ⟨?_,aa l1 l2⟩;congr 1;rw [Xc,δ,δ];constructor
  ·intro h;refine ⟨λe=>by rw [e] at el;simp at el;omega,i1,λi x y hx hy=>i2 i x y ?_ hx hy⟩;exact (N6.1 hy).1
  ·intro h;have:l.length≠0:=λe=>h.1 (Xp e);omega
open Classical in
theorem qM {F:PH} {v w:Γ} {g:Gr} {x:Fi} (hg:GV F v g) (hx:Mem.rep F x w) (hf:x.cond.1.length<=1000000) (hll:x.YX.length<=1000000000):ν 138 #[Y9 v,Y9 w] F λr F'=>r=Za (decide (ce g x))/\F.le F':=by
 have hg0:=hg;have hx0:=hx;obtain ⟨c,n,t,s,p,lv,f,rfl,hs⟩:=hg;obtain ⟨tt,nn,rfl,ht,hd⟩:=hx;have ec:=hs.c.len;have et:=hs.t.len;have es:=hs.s.len;have ep:=hs.p.len;refine Re ?_;unfold L3;refine (St.start F).newG λb2 G1 F1 l1 q2 _ h=> ?_;refine h.newG λb3 G2 F2 l2 q3 _ h=> ?_;have q2:=l2 _ _ q2;have l1:=aa l1 l2;have R:∀{F':PH} {b:Bool},G2.le F'->(b=Y8↔ce g x)->(Za b=Za (decide (ce g x))/\F.le F'):=λ{F' b} l h=>⟨by congr 1;rw [Xc,h,δ],aa l1 l⟩;have no:∀{F':PH},G2.le F'->¬ce g x->(Za Y6=Za (decide (ce g x))/\F.le F'):=λl h=>R l ⟨λh=>(by cases h),λhp=>absurd hp h⟩;have kr:ce g x->1<=x.k/\x.k<=5:=λh=>by rcases h.2 with h|h|h<;>have:=h.1<;>omega
 have pl:ce g x->gK x:=λh=>by
  rcases h.2 with ⟨k,_,a,b,c⟩|⟨k,_,a,b,c,d⟩|⟨k,_,a,b,c,d⟩
  ·exact ⟨.inl k,λ_=>c,.inr a,.inr b⟩
  ·exact ⟨.inr ⟨a,b,c⟩,λh=>by omega,.inl k,.inr d⟩
  ·exact ⟨.inr ⟨a,b,c⟩,λh=>by omega,.inr d,.inl k⟩
 refine ⟨_,ld (h.le _ _ q3) rfl,λhk=>no h.le λhp=>by have:=kr hp;omega,λhk1=>⟨_,ld (h.le _ _ q3) rfl,λhk=>no h.le λhp=>by have:=kr hp;omega,λhk5=>⟨#[nn.v,vi x.cond.2],rfl,je (h.le _ _ q3) rfl,_,ld (h.le _ _ q2) rfl,?_⟩⟩⟩;dsimp only;rw [ec];refine h.runv (jr (d:=x.cond) (DV.mk (hd.le l1)) (by show _<=_;omega) hf) λG3 F3 l3 h=> ?_;replace no:∀{F':PH},G3.le F'->¬ce g x->(Za Y6=Za (decide (ce g x))/\F.le F'):=λl h=>no (aa l3 l) h;have q3:=l3 _ _ q3;have q2:=l3 _ _ q2;have l13:=aa l1 l3;refine ⟨_,rfl,λhc=>no h.le λhp=>(by rw [bD.2 hp.1] at hc;cases hc),λhc=>⟨_,rfl,ac (h.le _ _ q3),?_⟩⟩;have hfit:iD x.cond g.YY.length:=bD.1 (by simpa using hc);refine h.runv (DU (Mem.le l13 hx0)) λG4 F4 l4 h=> ?_;replace no:∀{F':PH},G4.le F'->¬ce g x->(Za Y6=Za (decide (ce g x))/\F.le F'):=λl h=>no (aa l4 l) h;replace R:∀{F':PH} {b:Bool},G4.le F'->(b=Y8↔ce g x)->(Za b=Za (decide (ce g x))/\F.le F'):=λl h=>R (aa l3 (aa l4 l)) h;have q3:=l4 _ _ q3;have q2:=l4 _ _ q2;have l13:=aa l13 l4;refine ⟨_,rfl,λhc=>no h.le λhp=>(by rw [decide_eq_true (pl hp)] at hc;cases hc),λhc=> ?_⟩;have hpl:gK x:=by simpa using hc
 obtain ⟨P1,P2,P3,P4⟩:=hpl;have j2:¬(x.k=1\/x.k=2)->∀q:Bool,(q=Y8↔(x.k=3\/x.k=4))->po b2 b3 q (λr F'=>r=Za (decide (ce g x))/\F.le F') F4:=λhk12 q hq=>by
  have hz:=P1.resolve_left hk12;unfold po;refine ⟨λh1=> ?_,λh1=> ?_⟩
  ·have hk:=hq.1 h1;have h5:x.tok=0:=P4.resolve_left (by omega);have key:ce g x↔(0<=x.left/\x.left<g.YW.length/\gf g (λt=>decide (t.cls=0)) x.YX):=by
    constructor
    ·intro hp;rcases hp.2 with h|h|h
     ·exact absurd h.1 hk12
     ·exact h.2.1
     ·have:=h.1;omega
    ·intro h;exact ⟨hfit,.inr (.inl ⟨hk,h,hz.1,hz.2.1,hz.2.2,h5⟩)⟩
   refine ⟨_,ld (h.le _ _ q3) rfl,λh0=>⟨_,ld (h.le _ _ q3) rfl,_,ld (h.le _ _ q2) rfl,λh2=>⟨_,rfl,ac (h.le _ _ q2),_,ld (h.le _ _ q3) rfl,?_⟩,λh2=>no h.le λhp=> ?_⟩,λh0=>no h.le λhp=>h0 (key.1 hp).1⟩
   ·refine h.runv (t5 (GV.le hg0 l13) (ht.le l13) hll Y6) λG5 F5 l5 h=>⟨_,rfl,R (aa l5 h.le) ?_⟩;rw [δ,key];exact ⟨λh=>⟨h0,by omega,h⟩,λh=>h.2.2⟩
   ·have:=(key.1 hp).2.1;omega
  ·have hk:¬(x.k=3\/x.k=4):=λh=>by rw [hq.2 h] at h1;cases h1
   have hk5:x.k=5:=by omega
   have h5:x.left=0:=P3.resolve_left hk;have key:ce g x↔(gf g (λt=> !decide (t.lit=emp)) x.YX/\0<=x.tok/\∃t,g.YX[x.tok.toNat]? =Y3 t/\t.cls=0/\t.lit=emp):=by
    constructor
    ·intro hp;rcases hp.2 with h|h|h
     ·exact absurd h.1 hk12
     ·exact absurd h.1 hk
     ·exact h.2.1
    ·intro h;exact ⟨hfit,.inr (.inr ⟨hk5,h,hz.1,hz.2.1,hz.2.2,h5⟩)⟩
   have noT:∀{F':PH},G4.le F'->¬(0<=x.tok/\x.tok<g.YX.length)->(Za Y6=Za (decide (ce g x))/\F.le F'):=λl h=>no l λhp=>by obtain ⟨_,h0,y,hy,_⟩:=key.1 hp;have:=(N6.1 hy).1;exact h ⟨h0,by omega⟩
   refine ⟨_,ld (h.le _ _ q3) rfl,λh0=>noT h.le (by omega),λh0=>⟨_,ld (h.le _ _ q3) rfl,_,ld (h.le _ _ q2) rfl,λh2=>noT h.le (by omega),λh2=>⟨_,rfl,ac (h.le _ _ q2),_,ld (h.le _ _ q3) rfl,?_⟩⟩⟩;refine h.runv (t5 (GV.le hg0 l13) (ht.le l13) hll Y8) λG5 F5 l5 h=>⟨_,rfl,λhc=>no (aa l5 h.le) λhp=> ?_,λhc=> ?_⟩
   ·rw [ζ (show gf g (kg Y8) x.YX from (key.1 hp).1)] at hc;cases hc
   have hasc:gf g (kg Y8) x.YX:=by simpa using hc
   have l15:=aa l13 l5;refine ⟨_,ld (h.le _ _ (l5 _ _ q2)) rfl,_,ld (h.le _ _ (l5 _ _ q3)) rfl,h.ix (hs.t.le l15) (by decide) (by omega) (by omega) λa cc y hy hr hcc=>⟨cc,Mem.len hcc,hr,?_⟩⟩;have hstc:=Mem.st hcc;have hlc:cc.size=7:=Mem.len hcc;obtain ⟨pp,nn',rfl,_,_⟩:=hcc;refine h.var hstc (λb6 G6 F6 l6 q6 h=> ?_) rfl rfl;refine ⟨_,ld (h.le _ _ q6) rfl,λhcl=>⟨_,ld (h.le _ _ q6) rfl,R (aa l5 (aa l6 h.le)) ?_⟩,λhcl=>no (aa l5 (aa l6 h.le)) λhp=> ?_⟩
   ·rw [gY,δ,key];constructor
    ·intro hl;exact ⟨hasc,by omega,y,hy,hcl,hl⟩
    ·rintro ⟨_,_,y',hy',_,hl⟩;rw [hy] at hy';cases hy';exact hl
   ·obtain ⟨_,_,y',hy',hcl',_⟩:=key.1 hp;rw [hy] at hy';cases hy';exact hcl hcl'
 have j1:∀q:Bool,(q=Y8↔(x.k=1\/x.k=2))->pq b2 b3 x.k q (λr F'=>r=Za (decide (ce g x))/\F.le F') F4:=λq hq=>by
  unfold pq;refine ⟨λh1=> ?_,λh1=> ?_⟩
  ·have hk:=hq.1 h1;have key:ce g x↔oq g x:=by
    constructor
    ·intro hp;rcases hp.2 with h|h|h
     ·exact h.2.1
     ·have:=h.1;omega
     ·have:=h.1;omega
    ·intro h;exact ⟨hfit,.inl ⟨hk,h,P3.resolve_left (by omega),P4.resolve_left (by omega),P2 hk⟩⟩
   have noR:¬(0<=x.par/\x.par<g.YV.length/\0<=x.ch/\x.ch<g.YV.length)->(Za Y6=Za (decide (ce g x))/\F.le F4):=λhn=>no h.le λhp=>by obtain ⟨h0,h1,_,p',q',hp',hq',_⟩:=key.1 hp;have:=(N6.1 hp').1;have:=(N6.1 hq').1;exact hn (by omega)
   have p2:=h.le _ _ q2;have p3:=h.le _ _ q3;refine ⟨_,ld p3 rfl,λh0=>noR (by omega),λh0=>⟨_,ld p3 rfl,_,ld p2 rfl,λh0=>noR (by omega),λh2=>⟨_,ld p3 rfl,λh0=>noR (by omega),λh3=>⟨_,ld p3 rfl,_,ld p2 rfl,λh0=>noR (by omega),λh4=>⟨_,ld p2 rfl,_,ld p3 rfl,?_⟩⟩⟩⟩⟩;refine h.ix (hs.p.le l13) (by decide) (by omega) (by omega) λa cc y hy hr hcc=> ?_;obtain ⟨rr,n2,l2',rfl,hrr,_,_⟩:=hcc;have er:=hrr.len;have noA:¬(0<=x.pos/\x.pos<y.right.length)->(Za Y6=Za (decide (ce g x))/\F.le F4):=λhn=>no h.le λhp=>by obtain ⟨_,_,h0,p',q',hp',_,hs'⟩:=key.1 hp;rw [hy] at hp';cases hp';have:=(N6.1 hs').1;exact hn (by omega)
   refine ⟨rr,bj hr rfl,_,ld p3 rfl,λh5=>⟨_,ld p3 rfl,λh6=>⟨_,ld p3 rfl,?_⟩,λh6=>noA (by omega)⟩,λh5=>noA (by omega)⟩;have hlt:x.pos.toNat<y.right.length:=by omega
   have hz:=N5 hlt;generalize y.right[x.pos.toNat]=z at hz;obtain ⟨a2,c2,ha2,hr2,hc2⟩:=(hrr.le h.le).get (by decide) hz;rw [show c2=z.arr from hc2] at hr2;refine ⟨a2,ha2,by omega,by omega,z.t,aQ hr2 rfl,λhzt=>⟨_,ld p3 rfl,a2,ha2,by omega,by omega,z.i,bj hr2 rfl,_,ld p2 rfl,_,ld p3 rfl,?_⟩,λhzt=>no h.le λhp=> ?_⟩
   ·refine h.ix (hs.p.le l13) (by decide) (by omega) (by omega) λa cc u hu hr hcc=> ?_;obtain ⟨r3,n3,l3',rfl,_,_,_⟩:=hcc;refine ⟨u.left,bj hr rfl,R h.le ?_⟩;rw [δ,key];have hzt:z.t=Y6:=by simpa using hzt
    constructor
    ·intro he;refine ⟨by omega,by omega,by omega,y,u,hy,hu,?_⟩;rw [hz,<- he,<- hzt]
    ·rintro ⟨_,_,_,p',q',hp',hq',hs'⟩;rw [hy] at hp';cases hp';rw [hu] at hq';cases hq';rw [hz] at hs';cases hs';rfl
   ·obtain ⟨_,_,_,p',q',hp',hq',hs'⟩:=key.1 hp;rw [hy] at hp';cases hp';rw [hz] at hs';cases hs';cases hzt
  ·have hk12:¬(x.k=1\/x.k=2):=λh=>by rw [hq.2 h] at h1;cases h1
   refine ⟨λh3=>j2 hk12 _ ?_,λh3=>j2 hk12 _ ?_⟩
   ·rw [δ];exact ⟨λh=> .inl h,λ_=>h3⟩
   ·rw [δ];exact ⟨λh=> .inr h,λh=>h.resolve_left h3⟩
 refine ⟨_,ld (h.le _ _ q3) rfl,λh1=>j1 _ ?_,λh1=>j1 _ ?_⟩
 ·rw [δ];exact ⟨λh=> .inl h,λ_=>h1⟩
 ·rw [δ];exact ⟨λh=> .inr h,λh=>h.resolve_left h1⟩
theorem oo {F:PH} {v:Γ} {g:Gr} (hg:GV F v g) (i:Int) (h1:g.lvs.length<=1000000) (h2:∀x∈g.lvs,x.ps.length<=1000000):ν 137 #[Y9 v,vi i] F λr F'=>r=Za (decide (i∈g.lvs.flatMap Lv.ps))/\F.le F':=by
 obtain ⟨c,n,t,s,p,lv,f,rfl,hs⟩:=hg;have el:=hs.l.len;refine Rd ?_;unfold L0;refine fresh λb2 F1 l1 q1 _=> ?_;have hs:=hs.le l1;refine bh (vV · i b2 _) g.lvs.length (λk F'=>F1.le F'/\i ∉ (g.lvs.take k).flatMap Lv.ps) ⟨am _,by simp⟩ ?_;rintro k F2 N hk ⟨l2,hni⟩ next;unfold vV;have p1:=l2 _ _ q1;refine ⟨_,ld p1 rfl,λhlt=> ?_,λhge=> ?_⟩
 ·have hlt:k<g.lvs.length:=by omega
  have hx:=N5 hlt;have hxm:=X2 hlt;generalize g.lvs[k]=x at hx hxm;obtain ⟨a,cc,ha,hr,hc⟩:=(hs.l.le l2).get (by decide) hx;obtain ⟨pp,nn,rfl,hps,_⟩:=hc;have eps:=hps.len;have hpl:=h2 x hxm;have hcell:∀{F':PH},F2.le F'->F'.cell (Zb a (Zd (k:Int)*4))=Y3 pp.v:=λl=>by rw [N4];exact aI l (aQ hr rfl)
  refine bh (vU N · i b2 (k:Int) _) x.ps.length (λj F'=>F2.le F'/\i ∉ x.ps.take j) ⟨am _,by simp⟩ ?_;rintro j F3 N2 hj ⟨l3,hnj⟩ next2;unfold vU;have p3:=l3 _ _ p1;refine ⟨_,ld p3 rfl,a,ha,by omega,by omega,pp,hcell l3,λhlt2=>⟨_,ld p3 rfl,a,ha,by omega,by omega,pp,hcell l3,ixc (hps.le l3) (by decide) (by omega) (by omega) λa2 c2 y hy hr2 hc2=> ?_⟩,λhge2=> ?_⟩
  ·rw [N4] at hy;rw [show c2= #[vi y] from hc2] at hr2;refine ⟨y,aQ hr2 rfl,λhe=>⟨?_,aa l1 (aa l2 l3)⟩,λhe=> ?_⟩
   ·rw [ζ (YC.2 ⟨x,hxm,by rw [<- he];exact W7 hy⟩)]
   ·rw [aA (n:=x.ps.length) (by omega) (by omega)];refine next2 _ (by omega) ⟨l3,λhm=> ?_⟩;rw [aO hy] at hm;rcases W9.1 hm with h|h
    ·exact hnj h
    ·exact he (W5.1 h).symm
  ·have e:j=x.ps.length:=by omega
   subst e;rw [Xg] at hnj;unfold BW;rw [aA hlt];refine next _ hlt ⟨aa l2 l3,λhm=> ?_⟩;rw [aO hx,X7] at hm;rcases W9.1 hm with h|h
   ·exact hni h
   ·simp at h;exact hnj h
 ·have e:k=g.lvs.length:=by omega
  subst e;rw [Xg] at hni;unfold BV;exact ⟨by rw [ι hni],aa l1 l2⟩
structure Ru where
 kind:Nat
 a:Nat
 b:Nat
 c:Nat
 cond:Nat
instance:Mem Ru where
 n:=5
 rep _ x c:=c= #[vB x.kind,vB x.a,vB x.b,vB x.c,vB x.cond]/\x.kind<256/\x.a<256/\x.b<256/\x.c<256/\x.cond<256
 len h:=by obtain ⟨rfl,_⟩:=h;rfl
 le _ h:=h
 st h:=by obtain ⟨rfl,_⟩:=h;simp [ak]
abbrev ruD (g:Gr) (x:Ru):Dia:=dia (jc x.cond g.YY.length)
open Classical in
def ki (g:Gr) (x:Fi):Gr:=if ce g x then {g with fils:=g.fils++[x]} else g
def ni (g:Gr) (x:Ru):Gr:=
 if ((x.a % g.YV.length:Nat):Int)∈g.lvs.flatMap Lv.ps then g
 else {g with lvs:=g.lvs++[⟨((x.a % g.YV.length:Nat):Int)::(if x.b % g.YV.length≠x.a % g.YV.length/\((x.b % g.YV.length:Nat):Int) ∉ g.lvs.flatMap Lv.ps then [((x.b % g.YV.length:Nat):Int)] else []),((x.c % 4:Nat):Int),ruD g x⟩]}
def tokG (g:Gr) (x:Ru):Gr:={g with YX:=g.YX.modify (x.a % 9) λt=>{t with cond:=ruD g x}}
def ruleG (g:Gr) (x:Ru):Gr:=
 if x.kind % 8<2 then ni g x
 else if x.kind % 8<4 then ki g ⟨((x.kind % 8 - 1:Nat):Int),((x.a % g.YV.length:Nat):Int),((x.c % 16:Nat):Int),((x.b % g.YV.length:Nat):Int),0,0,[],ruD g x⟩
 else if x.kind % 8<6 then ki g ⟨((x.kind % 8 - 1:Nat):Int),0,0,0,((x.a % g.YW.length:Nat):Int),0,[((x.b % 9:Nat):Int)],ruD g x⟩
 else if x.kind % 8=6 then ki g ⟨5,0,0,0,0,0,[5],ruD g x⟩
 else tokG g x
theorem cZ.sz {α:Type} [Mem α] {F:PH} {l:List α} {vs:List Γ} (h:cZ F l vs):∀d∈vs,d.size=Mem.n α:=by
 induction h with
 |nil=>intro d hd;cases hd
 |cons h _ ih=>
  intro d hd;rcases W6.1 hd with rfl|hd
  ·exact Mem.len h
  ·exact ih d hd
structure RK (F G:PH) (b3 b5:Nat) (g:Gr) (x:Ru) (c n t s p l f m:Sl):Prop where
 lF:F.le G
 q3:G b3=Y3 (Y4 #[vB x.kind,vB x.a,vB x.b,vB x.c,vB x.cond] 131)
 q5:G b5=Y3 (Y4 #[m.v,vi (ruD g x).2] 31)
 gs:GS G g c n t s p l f
 m:RL G m (ruD g x).1
theorem RK.le {F G G':PH} {b3 b5:Nat} {g:Gr} {x:Ru} {c n t s p l f m:Sl} (h:RK F G b3 b5 g x c n t s p l f m) (hl:G.le G'):RK F G' b3 b5 g x c n t s p l f m:=
 ⟨aa h.lF hl,hl _ _ h.q3,hl _ _ h.q5,h.gs.le hl,h.m.le hl⟩
theorem RK.gv {F G:PH} {b3 b5:Nat} {g:Gr} {x:Ru} {c n t s p l f m:Sl} (h:RK F G b3 b5 g x c n t s p l f m):GV G (g.arr c n t s p l f) g:=⟨c,n,t,s,p,l,f,rfl,h.gs⟩
section
variable {F G F1:PH} {b2 b3 b4 b5 b7 b8:Nat} {g g':Gr} {x:Ru} {c n t s p l f m:Sl}
theorem js {w:Γ} (hF:F.le G) (hg:GV G w g') (st:St G F1 [pt b4 (Y4 zG 37),pt b2 (Y4 w 37)]):
  ∃v:Γ,v.size=9/\F1.row (Zc b2 0 Y5) v/\au F1 (Zc b4 0 Y5) 9 v λF2=>∃v:Γ,v.size=9/\F2.row (Zc b4 0 Y5) v/\LR F g' (Y9 v) F2:=by
 refine ⟨_,hg.size,st.whole1,?_⟩;refine st.put0 (w':=w) hg.size rfl hg.st λF3 h=> ?_;exact ⟨_,hg.size,h.whole0,⟨_,rfl,hg.le h.le⟩,aa hF h.le⟩
theorem vy {y:Fi} {ty my:Sl} (K:RK F G b3 b5 g x c n t s p l f m) (hf:g.fils.length<=1000000) (h1:y.cond.1.length<=1000000) (h2:y.YX.length<=1000) (ht:RL G ty y.YX) (hm:RL G my y.cond.1)
  (st:St G F1 [pt b7 (Y4 (y.arr ty my) 156),pt b4 (Y4 zG 37),pt b2 (Y4 (g.arr c n t s p l f) 37)]):
  rg b2 b4 b7 (LR F (ki g y)) F1:=by
 obtain ⟨_,_,T⟩:=VH;unfold rg;refine ⟨_,rfl,st.whole2,_,rfl,st.whole0,?_⟩;refine st.runv (qM K.gv ⟨ty,my,rfl,ht,hm⟩ h1 (by omega)) λG2 F2 l2 st=> ?_;have K:=K.le l2;refine ⟨_,rfl,λhc=> ?_,λhc=> ?_⟩
 ·have e:ki g y={g with fils:=g.fils++[y]}:=by unfold ki;rw [Χ (show ce g y by simpa using hc)]
  rw [e];refine ⟨_,st.ld2 rfl,_,rfl,st.whole0,?_⟩;refine St.grow T st K.gs.f (y:=y) ⟨ty,my,rfl,ht.le l2,hm.le l2⟩ hf rfl (λG' F' st=>st.whole0) λs' G' F' l' hs' st=> ?_;have K:=K.le l';refine st.set2 (w':=Gr.arr {g with fils:=g.fils++[y]} c n t s p l s') (Zn rfl) rfl λF6 st=> ?_;unfold nz;exact js K.lF ⟨c,n,t,s,p,l,s',rfl,K.gs.c,K.gs.n,K.gs.t,K.gs.s,K.gs.p,K.gs.l,hs'⟩ st.tail
 ·have e:ki g y=g:=by unfold ki;rw [Υ (show ¬ce g y by simpa using hc)]
  rw [e];unfold nz;exact js K.lF K.gv st.tail
theorem Bz {y:Lv} {sy my:Sl} (K:RK F G b3 b5 g x c n t s p l f m) (hl:g.lvs.length<=1000000) (hy:RL G sy y.ps) (hm:RL G my y.cond.1)
  (st:St G F1 [pt b8 (Y4 (y.arr sy my) 69),pt b4 (Y4 zG 37),pt b2 (Y4 (g.arr c n t s p l f) 37)]):
  vH b2 b4 b8 (LR F {g with lvs:=g.lvs++[y]}) F1:=by
 obtain ⟨_,_,T⟩:=VG;unfold vH;refine ⟨_,st.ld2 rfl,_,rfl,st.whole0,?_⟩;refine St.grow T st K.gs.l (y:=y) ⟨sy,my,rfl,hy,hm⟩ hl rfl (λG' F' st=>st.whole0) λs' G' F' l' hs' st=> ?_;have K:=K.le l';refine st.set2 (w':=Gr.arr {g with lvs:=g.lvs++[y]} c n t s p s' f) (Zn rfl) rfl λF6 st=> ?_;unfold nA;exact js K.lF ⟨c,n,t,s,p,s',f,rfl,K.gs.c,K.gs.n,K.gs.t,K.gs.s,K.gs.p,hs',K.gs.f⟩ st.tail
end
theorem DW {α:Type} (l:List α) (i:Nat) (f:α->α) {x:α} (hx:l[i]? =Y3 x):l.modify i f=l.set i (f x):=by
 apply XR;intro j;rw [Yr,Yt];by_cases e:i=j
 ·subst e;obtain ⟨hlt,rfl⟩:=N6.1 hx;simp [hlt]
 ·simp [e]
structure RH (g:Gr) (x:Ru):Prop where
 ka:x.kind<256
 a:x.a<256
 b:x.b<256
 c:x.c<256
 pl:g.YV.length<=1000000
 p0:g.YV.length≠0
 nl:g.YW.length<=1000000
 n0:g.YW.length≠0
 tl:g.YX.length<=1000000
 t9:9<=g.YX.length
 ll:g.lvs.length<=1000000
 lp:∀y∈g.lvs,y.ps.length<=1000000
 fl:g.fils.length<=1000000
 dl:(ruD g x).1.length<=1000000
section
variable {F G F1:PH} {b2 b3 b4 b5 b7 b8:Nat} {g g':Gr} {x:Ru} {c n t s p l f m:Sl}
abbrev f0 (g:Gr) (x:Ru):Fi:=⟨0,0,0,0,0,0,[],ruD g x⟩
theorem wN {a b:Nat} (ha:a<256):Zk (i64.wrap (a:Int)) (b:Int)=((a % b:Nat):Int):=by rw [aP (by omega),gb]
theorem BA (K:RK F G b3 b5 g x c n t s p l f m) (H:RH g x) {q:Bool} (hk:4<=x.kind % 8) (hq:q=Y8↔(x.kind % 8=4\/x.kind % 8=5))
  (st:St G F1 [pt b7 (Y4 ((f0 g x).arr Zi m) 156),pt b4 (Y4 zG 37),pt b2 (Y4 (g.arr c n t s p l f) 37)]):
  vJ b2 b3 b4 b5 b7 (x.kind:Int) q (LR F (ruleG g x)) F1:=by
 have es:=K.gs.s.len;have et:=K.gs.t.len;have e8:Zk (x.kind:Int) 8=((x.kind % 8:Nat):Int):=gb x.kind 8;have ka:=H.ka;unfold vJ;refine ⟨λh1=> ?_,λh1=> ?_⟩
 ·have hk45:=hq.1 h1;have e:ruleG g x=ki g ⟨((x.kind % 8 - 1:Nat):Int),0,0,0,((x.a % g.YW.length:Nat):Int),0,[((x.b % 9:Nat):Int)],ruD g x⟩:=by unfold ruleG;rw [Υ (by omega),Υ (by omega),Χ (by omega)]
  rw [e];refine ⟨_,ld (st.le _ _ K.q3) rfl,?_⟩;dsimp only;rw [e8,show i64.wrap ((x.kind % 8:Nat):Int)=((x.kind % 8:Nat):Int) from aP (by omega),show i64.wrap ((3:Int)+((x.kind % 8:Nat):Int))=(3:Int)+((x.kind % 8:Nat):Int) from aP (by omega),show i64.wrap ((3:Int)+((x.kind % 8:Nat):Int) - 4)=((x.kind % 8 - 1:Nat):Int) by rw [aP (by omega)];omega];refine st.set0 (w':=Fi.arr ⟨((x.kind % 8 - 1:Nat):Int),0,0,0,0,0,[],ruD g x⟩ Zi m) (Zn rfl) rfl λF2 st=> ?_;refine ⟨_,ld (st.le _ _ K.q3) rfl,_,st.ld2 rfl,by have:=H.n0;omega,?_⟩;rw [es,wN H.a];refine st.set0 (w':=Fi.arr ⟨((x.kind % 8 - 1:Nat):Int),0,0,0,((x.a % g.YW.length:Nat):Int),0,[],ruD g x⟩ Zi m) (Zn rfl) rfl λF3 st=> ?_;refine ⟨_,ld (st.le _ _ K.q3) rfl,?_⟩;dsimp only;rw [show Zk (i64.wrap (x.b:Int)) (9:Int)=((x.b % 9:Nat):Int) from wN (b:=9) H.b];refine st.newG λb137 G2 F4 l2 q _ st=> ?_;refine st.set0 (w':=Fi.arr ⟨((x.kind % 8 - 1:Nat):Int),0,0,0,((x.a % g.YW.length:Nat):Int),0,[((x.b % 9:Nat):Int)],ruD g x⟩ (Zj (Y3 (Zc b137 0 Y5)) 1 1) m) (Zn rfl) rfl λF5 st=> ?_;exact vy (y:=⟨((x.kind % 8 - 1:Nat):Int),0,0,0,((x.a % g.YW.length:Nat):Int),0,[((x.b % 9:Nat):Int)],ruD g x⟩) (K.le l2) H.fl H.dl (by simp) (eV q) (K.m.le l2) st
 ·have hn45:¬(x.kind % 8=4\/x.kind % 8=5):=λh=>by rw [hq.2 h] at h1;cases h1
  rw [e8];refine ⟨λh6=> ?_,λh6=> ?_⟩
  ·have e:ruleG g x=ki g ⟨5,0,0,0,0,0,[5],ruD g x⟩:=by unfold ruleG;rw [Υ (by omega),Υ (by omega),Υ (by omega),Χ (by omega)]
   rw [e];refine st.set0 (w':=Fi.arr ⟨5,0,0,0,0,0,[],ruD g x⟩ Zi m) (Zn rfl) rfl λF2 st=> ?_;refine st.newG λb142 G2 F4 l2 q _ st=> ?_;refine st.set0 (w':=Fi.arr ⟨5,0,0,0,0,0,[5],ruD g x⟩ (Zj (Y3 (Zc b142 0 Y5)) 1 1) m) (Zn rfl) rfl λF5 st=> ?_;exact vy (y:=⟨5,0,0,0,0,0,[5],ruD g x⟩) (K.le l2) H.fl H.dl (by simp) (eV q) (K.m.le l2) st
  ·have e:ruleG g x=tokG g x:=by unfold ruleG;rw [Υ (by omega),Υ (by omega),Υ (by omega),Υ (by omega)]
   rw [e];obtain ⟨_,_,T⟩:=QM;have ht9:=H.t9;have htl:=H.tl;have h9:x.a % 9<9:=X8 _ (by decide);obtain ⟨vs,hr,hrd⟩:=K.gs.t;have hx:=N5 (show x.a % 9<g.YX.length by omega);generalize g.YX[x.a % 9]=y at hx;obtain ⟨w,hw1,hw2,_⟩:=hr.get hx;refine st.new λb29 F2 st=> ?_;have st:=st.imp (A':=own (Zj (Y3 (Zc b29 0 Y5)) 0 0) 146 7 []) 0 rfl λH _ hH=>fY hH;refine ⟨_,st.ld3 rfl,?_⟩;refine St.app0 T st (hrd.le st.le) hr.st (by show 0+t.len<=_;omega) λs1 F3 st hl1=> ?_;rw [XM] at st;refine ⟨_,ld (st.le _ _ K.q3) rfl,_,rfl,ac (st.le _ _ K.q5),?_⟩;rw [show Zk (i64.wrap (x.a:Int)) (9:Int)=((x.a % 9:Nat):Int) from wN (b:=9) H.a];refine st.elN 0 rfl hr.sz hw1 (by decide) rfl (by show 5+2<=7;decide) (by simp [ak,Y7]) λF4 st=> ?_;obtain ⟨pp,nn,rfl,hp1,hp2⟩:=hw2;have hy':Mem.rep G {y with cond:=ruD g x} (wr (y.arr pp nn) 5 (#[m.v,vi (ruD g x).2]:Γ).toList):=⟨pp,m,rfl,hp1,K.m⟩;refine st.pinOwn (K:=λF4=>sto F4 (Zc b2 3 Y5) (Y7 s1) _) λG5 l5 hrd5 st=> ?_;have K:=K.le l5;have hs1:RL G5 s1 (tokG g x).YX:=by show RL G5 s1 (g.YX.modify (x.a % 9) λt=>{t with cond:=ruD g x});rw [DW _ _ _ hx];exact ⟨_,(hr.set hy').le l5,hrd5⟩
   refine st.set2 (w':=Gr.arr (tokG g x) c n s1 s p l f) (Zn rfl) rfl λF6 st=> ?_;exact js (g':=tokG g x) K.lF ⟨c,n,s1,s,p,l,f,rfl,K.gs.c,K.gs.n,hs1,K.gs.s,K.gs.p,K.gs.l,K.gs.f⟩ st.tail
theorem BB (K:RK F G b3 b5 g x c n t s p l f m) (H:RH g x) {q:Bool} (hk:2<=x.kind % 8) (hq:q=Y8↔(x.kind % 8=2\/x.kind % 8=3))
  (st:St G F1 [pt b7 (Y4 ((f0 g x).arr Zi m) 156),pt b4 (Y4 zG 37),pt b2 (Y4 (g.arr c n t s p l f) 37)]):
  vK b2 b3 b4 b5 (x.a:Int) p b7 (x.kind:Int) q (LR F (ruleG g x)) F1:=by
 have ep:=K.gs.p.len;have e8:Zk (x.kind:Int) 8=((x.kind % 8:Nat):Int):=gb x.kind 8;have ka:=H.ka;unfold vK;refine ⟨λh1=> ?_,λh1=> ?_⟩
 ·have hk23:=hq.1 h1;have e:ruleG g x=ki g ⟨((x.kind % 8 - 1:Nat):Int),((x.a % g.YV.length:Nat):Int),((x.c % 16:Nat):Int),((x.b % g.YV.length:Nat):Int),0,0,[],ruD g x⟩:=by unfold ruleG;rw [Υ (by omega),Χ (by omega)]
  rw [e];refine ⟨_,ld (st.le _ _ K.q3) rfl,?_⟩;dsimp only;rw [e8,show i64.wrap ((x.kind % 8:Nat):Int)=((x.kind % 8:Nat):Int) from aP (by omega),show i64.wrap ((1:Int)+((x.kind % 8:Nat):Int))=(1:Int)+((x.kind % 8:Nat):Int) from aP (by omega),show i64.wrap ((1:Int)+((x.kind % 8:Nat):Int) - 2)=((x.kind % 8 - 1:Nat):Int) by rw [aP (by omega)];omega];refine st.set0 (w':=Fi.arr ⟨((x.kind % 8 - 1:Nat):Int),0,0,0,0,0,[],ruD g x⟩ Zi m) (Zn rfl) rfl λF2 st=> ?_;rw [ep,wN H.a];refine st.set0 (w':=Fi.arr ⟨((x.kind % 8 - 1:Nat):Int),((x.a % g.YV.length:Nat):Int),0,0,0,0,[],ruD g x⟩ Zi m) (Zn rfl) rfl λF3 st=> ?_;refine ⟨_,ld (st.le _ _ K.q3) rfl,?_⟩;dsimp only;rw [show Zk (i64.wrap (x.c:Int)) (16:Int)=((x.c % 16:Nat):Int) from wN (b:=16) H.c];refine st.set0 (w':=Fi.arr ⟨((x.kind % 8 - 1:Nat):Int),((x.a % g.YV.length:Nat):Int),((x.c % 16:Nat):Int),0,0,0,[],ruD g x⟩ Zi m) (Zn rfl) rfl λF4 st=> ?_;refine ⟨_,ld (st.le _ _ K.q3) rfl,_,st.ld2 rfl,by have:=H.p0;omega,?_⟩;rw [ep,wN H.b];refine st.set0 (w':=Fi.arr ⟨((x.kind % 8 - 1:Nat):Int),((x.a % g.YV.length:Nat):Int),((x.c % 16:Nat):Int),((x.b % g.YV.length:Nat):Int),0,0,[],ruD g x⟩ Zi m) (Zn rfl) rfl λF5 st=> ?_;exact vy (y:=⟨((x.kind % 8 - 1:Nat):Int),((x.a % g.YV.length:Nat):Int),((x.c % 16:Nat):Int),((x.b % g.YV.length:Nat):Int),0,0,[],ruD g x⟩) K H.fl H.dl (by simp) (.nil _) K.m st
 ·have hn23:¬(x.kind % 8=2\/x.kind % 8=3):=λh=>by rw [hq.2 h] at h1;cases h1
  rw [e8];refine ⟨λh4=>BA K H (by omega) ?_ st,λh4=>BA K H (by omega) ?_ st⟩
  ·rw [δ];omega
  ·rw [δ];omega
theorem BC (K:RK F G b3 b5 g x c n t s p l f m) (H:RH g x) {q:Bool} (hq:q=Y8↔(x.kind % 8=0\/x.kind % 8=1))
  (st:St G F1 [pt b7 (Y4 ((f0 g x).arr Zi m) 156),pt b4 (Y4 zG 37),pt b2 (Y4 (g.arr c n t s p l f) 37)]):
  vL b2 b3 b4 b5 (x.a:Int) p b7 (x.kind:Int) q (LR F (ruleG g x)) F1:=by
 have ep:=K.gs.p.len;have e8:Zk (x.kind:Int) 8=((x.kind % 8:Nat):Int):=gb x.kind 8;unfold vL;refine ⟨λh1=> ?_,λh1=> ?_⟩
 ·have hk01:=hq.1 h1;have e:ruleG g x=ni g x:=by unfold ruleG;rw [Χ (by omega)]
  rw [e,ep,wN H.a];refine ⟨_,rfl,st.whole2,?_⟩;refine st.runv (oo K.gv _ H.ll H.lp) λG2 F2 l2 st=> ?_;have K:=K.le l2;refine ⟨_,rfl,λhc=> ?_,λhc=> ?_⟩
  ·have hna:((x.a % g.YV.length:Nat):Int) ∉ g.lvs.flatMap Lv.ps:=by simpa using hc
   refine st.new λb52 F3 st=> ?_;have st:=st.imp (A':=own (Zj (Y3 (Zc b52 0 Y5)) 1 1) 3 1 [vi ((x.a % g.YV.length:Nat):Int)]) 0 rfl λH _ hH=> .inr ⟨b52,_,rfl,hH,rfl,W8 _,rfl,rfl⟩;refine ⟨_,ld (st.le _ _ K.q3) rfl,_,rfl,ac (st.le _ _ K.q5),rfl,?_⟩;rw [show Zk (x.c:Int) (4:Int)=((x.c % 4:Nat):Int) from gb x.c 4,show i64.wrap ((x.c % 4:Nat):Int)=((x.c % 4:Nat):Int) from aP (by omega)];refine st.new λb8 F4 st=> ?_;refine st.put0 (w':=Lv.arr ⟨[((x.a % g.YV.length:Nat):Int)],((x.c % 4:Nat):Int),ruD g x⟩ (Zj (Y3 (Zc b52 0 Y5)) 1 1) m) rfl rfl (by simp [ak,Y7]) λF5 st=> ?_;refine ⟨_,ld (st.le _ _ K.q3) rfl,_,st.ld4 rfl,by have:=H.p0;omega,?_⟩;have j6:∀{G F':PH} {q6:Bool},RK F G b3 b5 g x c n t s p l f m->(q6=Y8↔(x.b % g.YV.length≠x.a % g.YV.length/\((x.b % g.YV.length:Nat):Int) ∉ g.lvs.flatMap Lv.ps))->
     St G F' [pt b8 (Y4 (Lv.arr ⟨[((x.a % g.YV.length:Nat):Int)],((x.c % 4:Nat):Int),ruD g x⟩ (Zj (Y3 (Zc b52 0 Y5)) 1 1) m) 69),own (Zj (Y3 (Zc b52 0 Y5)) 1 1) 3 1 [vi ((x.a % g.YV.length:Nat):Int)],pt b7 (Y4 ((f0 g x).arr Zi m) 156),pt b4 (Y4 zG 37),pt b2 (Y4 (g.arr c n t s p l f) 37)]->
     vI b2 b4 b8 (x.b:Int) p q6 (LR F (ni g x)) F':=λ{G F' q6} K hq6 st=>by
    unfold vI;refine ⟨λh6=> ?_,λh6=> ?_⟩
    ·have e2:ni g x={g with lvs:=g.lvs++[⟨[((x.a % g.YV.length:Nat):Int),((x.b % g.YV.length:Nat):Int)],((x.c % 4:Nat):Int),ruD g x⟩]}:=by unfold ni;rw [Υ hna,Χ (hq6.1 h6)]
     rw [e2];refine ⟨_,st.ld0 rfl,?_⟩;rw [ep,wN H.b];refine st.push1 QJ (c:= #[vi ((x.b % g.YV.length:Nat):Int)]) rfl (by simp [ak]) (by show 1<=400000000000;decide) λs' G7 F7 l7 st hl7=> ?_;refine st.set0 (w':=Lv.arr ⟨[((x.a % g.YV.length:Nat):Int),((x.b % g.YV.length:Nat):Int)],((x.c % 4:Nat):Int),ruD g x⟩ s' m) (Zn rfl) rfl λF8 st=> ?_;obtain ⟨G9,l9,⟨H9,hA,hH⟩,st⟩:=st.front1.pin;have hps:RL G9 s' [((x.a % g.YV.length:Nat):Int),((x.b % g.YV.length:Nat):Int)]:=RL.ints.2 ((bV.rd hA).le hH);have K:=K.le (aa l7 l9);have st:=st.front1.tail;exact Bz (y:=⟨[((x.a % g.YV.length:Nat):Int),((x.b % g.YV.length:Nat):Int)],((x.c % 4:Nat):Int),ruD g x⟩) K H.ll hps K.m st
    ·have hn6:¬(x.b % g.YV.length≠x.a % g.YV.length/\((x.b % g.YV.length:Nat):Int) ∉ g.lvs.flatMap Lv.ps):=λh=>by rw [hq6.2 h] at h6;cases h6
     have e2:ni g x={g with lvs:=g.lvs++[⟨[((x.a % g.YV.length:Nat):Int)],((x.c % 4:Nat):Int),ruD g x⟩]}:=by unfold ni;rw [Υ hna,Υ hn6]
     rw [e2];obtain ⟨G9,l9,⟨H9,hA,hH⟩,st⟩:=st.front1.pin;have hps:RL G9 (Zj (Y3 (Zc b52 0 Y5)) 1 1) [((x.a % g.YV.length:Nat):Int)]:=RL.ints.2 ((bV.rd hA).le hH);have K:=K.le l9;have st:=st.front1.tail;exact Bz (y:=⟨[((x.a % g.YV.length:Nat):Int)],((x.c % 4:Nat):Int),ruD g x⟩) K H.ll hps K.m st
   rw [ep,wN H.b];refine ⟨λhne=>⟨_,rfl,st.whole4,?_⟩,λheq=>j6 K ?_ st⟩
   ·refine st.runv (oo K.gv _ H.ll H.lp) λG6 F6 l6 st=> ?_;refine ⟨_,rfl,j6 (K.le l6) ?_ st⟩;simp only [Ye,decide_eq_false_iff_not];exact ⟨λh=>⟨λe=>hne (by rw [e]),h⟩,λh=>h.2⟩
   ·have heq:x.b % g.YV.length=x.a % g.YV.length:=by omega
    exact ⟨λh=>(by cases h),λh=>absurd heq h.1⟩
  ·have e2:ni g x=g:=by unfold ni;rw [Χ (by simpa using hc)]
   rw [e2];unfold nA;exact js K.lF K.gv st.tail
 ·have hn01:¬(x.kind % 8=0\/x.kind % 8=1):=λh=>by rw [hq.2 h] at h1;cases h1
  rw [e8];refine ⟨λh4=>BB K H (by omega) ?_ st,λh4=>BB K H (by omega) ?_ st⟩
  ·rw [δ];omega
  ·rw [δ];omega
end
theorem zx {F:PH} {w v:Γ} {g:Gr} {x:Ru} (hg:GV F w g) (hx:Mem.rep F x v) (H:RH g x) (hn:g.YY.length<=6):
  ν 84 #[Y9 w,Y9 v] F (LR F (ruleG g x)):=by
 obtain ⟨c,n,t,s,p,l,f,rfl,hs⟩:=hg;obtain ⟨rfl,hx0,hx1,hx2,hx3,hx4⟩:=hx;have ec:=hs.c.len;have ep:=hs.p.len;refine VT ?_;unfold QW;refine (St.start F).new λb2 F1 st=> ?_;refine st.newG λb3 G1 F2 l1 q3 _ st=> ?_;refine st.new λb4 F3 st=> ?_;refine ⟨_,ld (st.le _ _ q3) rfl,_,st.ld1 rfl,?_⟩;dsimp only;rw [ec];refine st.run (qK x.cond g.YY.length hx4 hn _) λ_ G2 F4 hr l2 st=> ?_;obtain ⟨⟨_,rfl,hw⟩,-⟩:=hr;obtain ⟨m,rfl,hm⟩:=hw.out;refine ⟨_,rfl,?_⟩;refine st.var (w:= #[m.v,vi (ruD g x).2]) (by simp [ak,Y7]) (λb5 G3 F5 l3 q5 st=> ?_) rfl rfl;have l23:=aa l2 l3;have l13:=aa l1 l23;have K:RK F G3 b3 b5 g x c n t s p l f m:=⟨l13,l23 _ _ q3,q5,hs.le l13,hm.le l3⟩;refine ⟨_,ld (st.le _ _ K.q3) rfl,_,st.ld1 rfl,by have:=H.p0;omega,_,rfl,ac (st.le _ _ K.q5),rfl,?_⟩;refine st.new λb7 F6 st=> ?_;refine st.put0 (w':=(f0 g x).arr Zi m) rfl rfl (by simp [ak,Y7]) λF7 st=> ?_;have e8:Zk (x.kind:Int) 8=((x.kind % 8:Nat):Int):=gb x.kind 8;refine ⟨_,ld (st.le _ _ K.q3) rfl,?_⟩;dsimp only;rw [e8];refine ⟨λh4=>BC K H ?_ st,λh4=>BC K H ?_ st⟩
 ·rw [δ];omega
 ·rw [δ];omega
theorem vz (l:Φ) {n:Nat} (hn:n<=6):∀(m v k:Nat),v+m=n->Sx n (jd l m v k)
 |0,v,k,_=>Sx.Y0 n _
 |m+1,v,k,h=>by unfold jd;have hv:Sx n (tv v):=Sx.tv (by omega) hn;exact (hv.ap2 (vz l hn m (v+1) _ (by omega))).ap2 ((vz l hn m (v+1) k (by omega)).ap2 (hv.ap2 (Sx.Y0 n Y8)))
theorem jO {b n:Nat} (hn:n<=6):Sx n (jc b n):=by
 unfold jc;split
 ·exact Sx.Y0 n Y8
 ·rename_i h;have hv:b / 6 % n<n:=X8 _ (by omega);split
  ·exact Sx.tv hv hn
  ·split
   ·exact (Sx.tv hv hn).ap2 (Sx.Y0 n Y8)
   ·exact vz _ hn n 0 0 (by omega)
theorem Sx.brl {n:Nat} {t:Tr} (h:Sx n t) (hn:n<=6):(dia t).1.length<=63:=by have:(dia t).1.length=(bi t).length:=aN _;rw [this];exact h.len hn
structure Rw where
 YZ:Nat
 n:Nat
 fam:Δ
 lines:List Ln
 rules:List Ru
structure zy (F:PH) (v:Γ) (x:Rw):Prop where
 ex:∃sf sl sr:Sl,v= #[vB x.YZ,vB x.n,sf.v,sl.v,sr.v]/\RdS F sf 1 (x.fam.map vB)/\RL F sl x.lines/\RL F sr x.rules
 b:x.YZ<256
 n:x.n<256
theorem zy.le {F G:PH} {v:Γ} {x:Rw} (h:zy F v x) (hl:F.le G):zy G v x:=by obtain ⟨⟨sf,sl,sr,h1,h2,h3,h4⟩,h5,h6⟩:=h;exact ⟨⟨sf,sl,sr,h1,h2.le hl,h3.le hl,h4.le hl⟩,h5,h6⟩
def bN (x:Rw):Bool:=decide (x.YZ % 8<6)
def fJ (x:Rw):List ο:=([⟨#[83]⟩,⟨#[80]⟩,⟨#[81]⟩]:List ο).take (1+x.n / 4 % 3)
def jt (x:Rw):List ο:=([⟨#[65]⟩,⟨#[66]⟩,⟨#[67]⟩]:List ο).take (x.n % 4)
def dC (x:Rw):Gr:=if bN x=Y8 then cq (x.YZ % 8) else {cM (fJ x) with YY:=jt x,YV:=[bE ⟨#[102,105,114,115,116]⟩ 0 [⟨Y8,0⟩]]}
def xI (x:Rw) (n:Nat):Tr:=jd (x.fam.map λk:Nat=>(k:Int)) n 0 0
def famG (x:Rw) (g:Gr):Gr:=if x.fam≠[]/\(dia (xI x g.YY.length)).2≠0 then {g with fam:=dia (xI x g.YY.length)} else g
def cR (x:Rw):Nat:=if bN x=Y8 then 6 else 10
def dP (x:Rw) (l:List Ln) (g:Gr):Gr:=l.foldl (λg y=>lineG g y (bN x)) g
def eg (l:List Ru) (g:Gr):Gr:=l.foldl ruleG g
def dt (x:Rw):Gr:=eg (x.rules.take 6) (dP x (x.lines.take (cR x)) (famG x (dC x)))
structure Bd (g:Gr) (np nl:Nat):Prop where
 c:g.YY.length<=3
 n0:g.YW.length≠0
 n:g.YW.length<=3
 p0:g.YV.length≠0
 p:g.YV.length<=np
 t:g.YX.length=11
 l:g.lvs.length<=nl
 lp:∀y∈g.lvs,y.ps.length<=2
 f:g.fils.length<=nl
theorem FD {k:Nat} (hk:k<6):Bd (cq k) 8 4:=by
  have h:k=0\/k=1\/k=2\/k=3\/k=4\/k=5:=by omega
  rcases h with rfl|rfl|rfl|rfl|rfl|rfl
  all_goals
    refine ⟨by decide,by decide,by decide,by decide,by decide,rfl,by decide,λy hy=> ?_,by decide⟩;first
      |(have:=hy;cases this;done)
      | (rcases W6.1 hy with rfl|hy
         · decide
         rcases W6.1 hy with rfl|hy
         · decide
         rcases W6.1 hy with rfl|hy
         · decide
         cases hy)
theorem qN (x:Rw):Bd (dC x) 8 4:=by
 unfold dC;split
 ·rename_i h;exact FD (ε h)
 ·have h1:(fJ x).length=1+x.n / 4 % 3:=by unfold fJ;rw [Xe];simp;omega
  have h2:(jt x).length<=3:=by unfold jt;rw [Xe];simp;omega
  exact ⟨h2,by show (fJ x).length≠0;omega,by show (fJ x).length<=3;omega,by show (1:Nat)≠0;decide,by show 1<=8;decide,rfl,by show 0<=4;decide,λy hy=>(by cases hy),by show 0<=4;decide⟩
theorem FE {x:Rw} {g:Gr} {a b:Nat} (h:Bd g a b):Bd (famG x g) a b:=by
 unfold famG;split
 ·exact ⟨h.c,h.n0,h.n,h.p0,h.p,h.t,h.l,h.lp,h.f⟩
 ·exact h
theorem BE {g:Gr} {a b:Nat} (h:Bd g a b) (y:Ln) (kn:Bool):Bd (lineG g y kn) (a+1) b:=by
 have hp:=h.p;unfold lineG;split
 ·exact ⟨h.c,h.n0,h.n,h.p0,by omega,h.t,h.l,h.lp,h.f⟩
 ·exact ⟨h.c,h.n0,h.n,by show (g.YV++_).length≠0;rw [Xa];have:=h.p0;omega,by show (g.YV++[_]).length<=_;rw [Xa,Xk];omega,h.t,h.l,h.lp,h.f⟩
theorem zA {g:Gr} {a b:Nat} (h:Bd g a b) (y:Fi):Bd (ki g y) a (b+1):=by
 have hf:=h.f;have hl:=h.l;unfold ki;split
 ·exact ⟨h.c,h.n0,h.n,h.p0,h.p,h.t,by show g.lvs.length<=_;omega,h.lp,by show (g.fils++[_]).length<=_;rw [Xa,Xk];omega⟩
 ·exact ⟨h.c,h.n0,h.n,h.p0,h.p,h.t,by omega,h.lp,by omega⟩
theorem BF {g:Gr} {a b:Nat} (h:Bd g a b) (y:Ru):Bd (ruleG g y) a (b+1):=by
 have hf:=h.f;have hl:=h.l;unfold ruleG;split
 ·unfold ni;split
  ·exact ⟨h.c,h.n0,h.n,h.p0,h.p,h.t,by omega,h.lp,by omega⟩
  ·refine ⟨h.c,h.n0,h.n,h.p0,h.p,h.t,by show (g.lvs++[_]).length<=_;rw [Xa,Xk];omega,λz hz=> ?_,by show g.fils.length<=_;omega⟩;rcases W9.1 hz with hz|hz
   ·exact h.lp z hz
   ·rw [W5.1 hz];simp only [Xl];split<;>simp
 ·split
  ·exact zA h _
  ·split
   ·exact zA h _
   ·split
    ·exact zA h _
    ·unfold tokG;exact ⟨h.c,h.n0,h.n,h.p0,h.p,by show (g.YX.modify _ _).length=11;rw [List.length_modify];exact h.t,by show g.lvs.length<=_;omega,h.lp,by show g.fils.length<=_;omega⟩
theorem qO {x:Rw}:∀(l:List Ln) {g:Gr} {a b:Nat},Bd g a b->Bd (dP x l g) (a+l.length) b
 |[],g,a,b,h=>h
 |y::l,g,a,b,h=>by have:=qO (x:=x) l (BE h y (bN x));rw [Xl,show a+(l.length+1)=a+1+l.length by omega];exact this
theorem qP:∀(l:List Ru) {g:Gr} {a b:Nat},Bd g a b->Bd (eg l g) a (b+l.length)
 |[],g,a,b,h=>h
 |y::l,g,a,b,h=>by have:=qP l (BF h y);rw [Xl,show b+(l.length+1)=b+1+l.length by omega];exact this
theorem Bd.rh {g:Gr} {a b:Nat} (h:Bd g a b) (ha:a<=1000) (hb:b<=1000) {F:PH} {y:Ru} {v:Γ} (hy:Mem.rep F y v):RH g y:=by obtain ⟨-,h1,h2,h3,h4,h5⟩:=hy;have h6:=h.c;have h7:=h.n;have h8:=h.p;have h9:=h.t;have h10:=h.l;have h11:=h.f;exact ⟨h1,h2,h3,h4,by omega,h.p0,by omega,h.n0,by omega,by omega,by omega,λz hz=>by have:=h.lp z hz;omega,by omega,by have:=(jO (b:=y.cond) (n:=g.YY.length) (by omega)).brl (by omega);show (dia (jc y.cond g.YY.length)).1.length<=_;omega⟩
end
