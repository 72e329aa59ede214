/-
  The tokens of made grammars; a grammar without productions.
-/
import Derived.Test.YtcemhghkipgdiaaGreatDoorHr
import Derived.Test.YtcemhghkipgdiaaGreatDoorFr
import Derived.Test.YtcemhghkipgdiaaGreatDoorGkoineref05
namespace Go.Proofs.YtcemhghkipgdiaaGreatDoor
open Go Go.Proofs.Tryz Tr
set_option maxRecDepth 10000
variable {F:PH}
theorem ie (i:Int) (F:PH):ai prog 49 #[vi i] F λr F'=>r=.agg (Sy.arr ⟨false,i⟩)/\F.le F':=by refine T8 ?_;unfold Q5;refine (St.start F).new λb F1 h=> ?_;refine h.put0 (w':=(Sy.arr ⟨false,i⟩)) rfl rfl (by simp [ak]) λF2 h=> ?_;exact ⟨_,rfl,h.whole0,rfl,h.le⟩
theorem kB (i:Int) (F:PH):ai prog 48 #[vi i] F λr F'=>r=.agg (Sy.arr ⟨true,i⟩)/\F.le F':=by refine T7 ?_;unfold Q4;refine (St.start F).new λb F1 h=> ?_;refine h.put0 (w':=(Sy.arr ⟨true,i⟩)) rfl rfl (by simp [ak]) λF2 h=> ?_;exact ⟨_,rfl,h.whole0,rfl,h.le⟩
theorem dG (lo hi:Int) (F:PH):ai prog 162 #[vi lo,vi hi] F λr F'=>r=.agg (Nd.arr ⟨1,lo,hi,0,0⟩)/\F.le F':=by refine Rl ?_;unfold Lu;refine (St.start F).new λb F1 h=> ?_;refine h.put0 (w':=(Nd.arr ⟨1,lo,hi,0,0⟩)) rfl rfl (by simp [ak]) λF2 h=> ?_;exact ⟨_,rfl,h.whole0,rfl,h.le⟩
theorem bY (k x y:Int) (F:PH):ai prog 163 #[vi k,vi x,vi y] F λr F'=>r=.agg (Nd.arr ⟨k,0,0,x,y⟩)/\F.le F':=by refine Rm ?_;unfold Lw;refine (St.start F).new λb F1 h=> ?_;refine h.put0 (w':=(Nd.arr ⟨k,0,0,x,y⟩)) rfl rfl (by simp [ak]) λF2 h=> ?_;exact ⟨_,rfl,h.whole0,rfl,h.le⟩
theorem DV.out {v:Γ} {d:Dia} (h:DV F v d):∃s,v= #[s.v,vi d.2]/\RL F s d.1:=by obtain ⟨s,h1,h2⟩:=h;exact ⟨s,h1,RL.brs.2 h2⟩
abbrev aP:Dia:=dia (leaf true)
abbrev wZ (d:Dia) (r:Value) (F:PH):Prop:=∃w,r=.agg w/\DV F w d
theorem fW (F:PH):ai prog 34 #[.bool true] F λr F'=>wZ aP r F'/\F.le F':=
 (dy true).mono λ_ _ ⟨w,h1,h2,h3⟩=>⟨⟨w,h1,h2⟩,h3⟩
abbrev bH (nm:ByteArray) (left:Int) (right:List Sy):Pr:=⟨nm,left,right,aP,false,0,[],⟨false,0,0,0,0⟩⟩
theorem tI (nm:ByteArray) (left:Int) {s:Sl} {right:List Sy} {F:PH} (hs:RL F s right):ai prog 81 #[.string nm,vi left,s.v] F λr F'=>(∃w,r=.agg w/\Mem.rep F' (bH nm left right) w)/\F.le F':=by refine Q7 ?_;unfold M8;refine (St.start F).new λb F1 h=> ?_;refine h.run (fW _) λ_ G F2 hr l h=> ?_;obtain ⟨w,rfl,hw⟩:=hr;obtain ⟨n,rfl,hn⟩:=hw.out;refine ⟨_,rfl,rfl,?_⟩;refine h.put0 (w':=(bH nm left right).arr s n Sl.nil) rfl rfl (by simp [ak,Sl.v]) λF2 h=> ?_;exact ⟨_,rfl,h.whole0,⟨_,rfl,s,n,Sl.nil,rfl,(hs.le l).le h.le,hn.le h.le,.nil _⟩,aa l h.le⟩
theorem aQ (v:Nat) (hv:v<=63) (F:PH):ai prog 85 #[vi v] F λr F'=>wZ (dia (tv v)) r F'/\F.le F':=by
 refine Uc ?_;unfold Ra;refine (St.start F).new λb F1 h=> ?_;refine h.run (nA (v:Int)) λ_ G F2 hr l h=> ?_;obtain ⟨w,rfl,hw⟩:=hr;have e:sU (v:Int)=(dia (tv v),0):=by unfold sU;rw [if_neg (by omega)];simp
 rw [e] at hw ⊢;obtain ⟨n,rfl,hn⟩:=hw.out;refine ⟨_,_,rfl,?_⟩;refine h.new λb3 F3 h=> ?_;refine h.put0 (w':= #[n.v,vi (dia (tv v)).2]) rfl rfl (by simp [ak,Sl.v]) λF2 h=> ?_;refine ⟨_,rfl,h.whole0,?_⟩;refine h.put1 (w':= #[n.v,vi (dia (tv v)).2]) rfl rfl (by simp [ak,Sl.v]) λF2 h=> ?_;exact ⟨_,rfl,h.whole1,⟨_,rfl,DV.mk (hn.le h.le)⟩,aa l h.le⟩
theorem DM {n:Nat}:∀{vs:List Γ} {k:Nat} {c:Γ},(∀d∈vs,d.size=n)->vs[k]? =some c->∀{off:Nat} {v:Ξ},off+v.length<=n->
  cat (vs.set k (wr c off v))=(cat vs).take (k*n+off)++v++(cat vs).drop (k*n+off+v.length)
 |[],k,c,_,hk,off,v,_=>by simp at hk
 |d::vs,0,c,hn,hk,off,v,ho=>by simp at hk;subst hk;have hd:d.size=n:=hn d (by simp);rw [List.set_cons_zero,bR,bR,V5,Vd];have hw:=dV v d.toList off (by rw [U4 (xs:=d)];omega);rw [show d.toList.toArray=d by simp] at hw;have hdl:d.toList.length=d.size:=U4;rw [hw,Vg (by omega),List.drop_append_of_le_length (by omega)];simp []
 |d::vs,k+1,c,hn,hk,off,v,ho=>by
  have hd:d.toList.length=n:=by rw [U4];exact hn d (by simp)
  rw [List.set_cons_succ,bR,bR,DM (λx hx=>hn x (by simp [hx])) (by simpa using hk) ho];have e1:(k+1)*n+off=d.toList.length+(k*n+off):=by rw [hd,Wf];omega
  have e2:(k+1)*n+off+v.length=d.toList.length+(k*n+off+v.length):=by rw [hd,Wf];omega
  rw [e2,e1,List.take_length_add_append,List.drop_length_add_append];simp []
theorem HD {α:Type} (L v:List α) {o M:Nat} (h:o+v.length<=M) (hM:M<=L.length):(L.take o++v++L.drop (o+v.length)).take M=(L.take M).take o++v++(L.take M).drop (o+v.length):=by
 have t1:(L.take o++v).length=o+v.length:=by rw [UV,Vb];omega
 rw [List.take_append,t1,UZ (l:=L.take o++v) (by omega),List.take_take,Nat.min_eq_left (by omega),List.drop_take]
theorem St.elAt {G F:PH} {As:List (Ψ)} {s:Sl} {e n k:Nat} {vs:List Γ} {c:Γ} (h:St G F As) (i:Nat) (hi:As[i]? =some (own s e n (cat vs))) (hn:∀d∈vs,d.size=n) (hk:vs[k]? =some c) (h0:0<n):
  ∃b cur,s.base=some ⟨b,0,none⟩/\k<s.len/\F b=some (.cells cur e)/\k*n+n<=cur.size/\
   ∀off (v:Ξ),off+v.length<=n->St G (F.set b (.cells (wr cur (k*n+off) v) e)) (As.set i (own s e n (cat (vs.set k (wr c off v))))):=by
 have hkl:k<vs.length:=(N6.1 hk).1;have hlen:∀(l:List Γ),(∀d∈l,d.size=n)->(cat l).length=l.length*n:=by
  intro l;induction l with
  |nil=>intro _;simp [cat]
  |cons d l ih=>intro hd;rw [bR,UV,ih (λx hx=>hd x (by simp [hx])),U4,hd d (by simp),Vf,Wf,Nat.add_comm]
 have hl:=hlen vs hn;obtain ⟨ho,-⟩:=h.ownAt hi;rcases ho with ⟨rfl,hv⟩|⟨b,cur,h1,h2,h3,h4,h5,h6⟩
 ·rw [hv] at hl;have h:=Nat.mul_pos (show 0<vs.length by omega) h0;simp at hl;omega
 ·have e1:s.len=vs.length:=by rw [hl] at h5;exact (Nat.eq_of_mul_eq_mul_right h0 h5).symm
  have hkn:k*n+n<=s.len*n:=by rw [<- Wf];exact V0 _ (by omega)
  have hcs:s.len*n<=cur.size:=by rw [h3];exact V0 _ h4
  refine ⟨b,cur,h1,by omega,h2,by omega,λoff v hv=> ?_⟩;obtain ⟨H,a1,a2,a3,a4⟩:=h.set (A':=own s e n (cat (vs.set k (wr c off v)))) hi;have hHb:H b≠none:=by
   rcases a1 with ⟨rfl,_⟩|⟨b',cur',g1,g2,_⟩
   ·cases h1
   ·rw [h1] at g1;cases g1;rw [g2];simp
  have hall:∀d∈vs.set k (wr c off v),d.size=n:=by
   intro d hd;rcases List.mem_or_eq_of_mem_set hd with hd|rfl
   ·exact hn d hd
   ·rw [dW];exact hn c (UY hk)
  refine a4 (PH.set (λ_=>none) b (.cells (wr cur (k*n+off) v) e)) _ (.inr ⟨b,_,h1,al _ _ _,by rw [dW,h3],h4,?_,?_⟩) (λx hx=> ?_) (λx p hx=> ?_) (λx p hx hx'=> ?_)
  ·rw [hlen _ hall,List.length_set,e1]
  ·have hw:=dV v cur.toList (k*n+off) (by rw [U4 (xs:=cur)];omega);rw [show cur.toList.toArray=cur by simp] at hw;rw [hw,DM hn hk hv,<- h6];exact HD _ _ (by omega) (by rw [U4 (xs:=cur)];omega)
  ·by_cases ex:x=b
   ·rw [ex];exact .inl hHb
   ·rw [av _ _ ex] at hx;exact absurd rfl hx
  ·by_cases ex:x=b
   ·rw [ex,al] at hx ⊢;exact hx
   ·rw [av _ _ ex] at hx;cases hx
  ·have ex:x≠b:=λex=>by subst ex;exact hHb hx'
   rw [av _ _ ex];exact hx
theorem St.elN {G F:PH} {As:List (Ψ)} {s:Sl} {e n k:Nat} {vs:List Γ} {c:Γ} (h:St G F As) (i:Nat) (hi:As[i]? =some (own s e n (cat vs))) (hn:∀d∈vs,d.size=n) (hk:vs[k]? =some c) (h0:0<n)
  {off m:Nat} {v:Γ} (hm:v.size=m) (hv:off+m<=n) (hst:∀x∈v.toList,ak x) {C:Ψ} (kk:∀F',St G F' (As.set i (own s e n (cat (vs.set k (wr c off v.toList)))))->C F'):
  ∃a:Addr,s.base=some a/\0<=(k:Int)/\(k:Int)<(s.len:Int)/\au F (Addr.add (Addr.add a (Int.toNat (k:Int)*n)) off) m v C:=by
 obtain ⟨b,cur,h1,h2,h3,h4,h5⟩:=h.elAt i hi hn hk h0;have ea:Addr.add (Addr.add ⟨b,0,none⟩ (Int.toNat (k:Int)*n)) off=⟨b,k*n+off,none⟩:=by simp only [aB,N4,Vd]
 refine ⟨_,h1,by omega,by omega,?_⟩;rw [ea];exact ⟨hm,hst,cur,e,h3,rfl,(by show k*n+off+m<=cur.size;omega),atI (kk _ (h5 off v.toList (by rw [U4];omega)))⟩
theorem St.el1 {G F:PH} {As:List (Ψ)} {s:Sl} {e n k:Nat} {vs:List Γ} {c:Γ} (h:St G F As) (i:Nat) (hi:As[i]? =some (own s e n (cat vs))) (hn:∀d∈vs,d.size=n) (hk:vs[k]? =some c) (h0:0<n)
  {off:Nat} {v:Value} (hv:off<n) {C:Ψ} (kk:∀F',St G F' (As.set i (own s e n (cat (vs.set k (c.setIfInBounds off v)))))->C F'):
  ∃a:Addr,s.base=some a/\0<=(k:Int)/\(k:Int)<(s.len:Int)/\sto F (Addr.add (Addr.add a (Int.toNat (k:Int)*n)) off) v C:=by
 obtain ⟨b,cur,h1,h2,h3,h4,h5⟩:=h.elAt i hi hn hk h0;have ea:Addr.add (Addr.add ⟨b,0,none⟩ (Int.toNat (k:Int)*n)) off=⟨b,k*n+off,none⟩:=by simp only [aB,N4,Vd]
 refine ⟨_,h1,by omega,by omega,?_⟩;rw [ea];exact ⟨cur,e,h3,rfl,(by show k*n+off<cur.size;omega),atI (kk _ (h5 off [v] (by show off+1<=n;omega)))⟩
structure KF (K G F:PH) (b0 b1:Nat) (g:Gr) (c n t s sp l f:Sl) (vs:List Γ):Prop where
 k:K.le G
 st:St G F [pt b1 (.cells (g.arr c n t s sp l f) 37),own sp 55 13 (cat vs),pt b0 (.cells zG 37)]
 r:cN G g.prods vs
 c:RL G c g.conds
 n:RL G n g.fam.1
 t:RL G t g.toks
 s:RL G s g.nons
 l:RL G l g.lvs
 f:RL G f g.fils
def KS (K F:PH) (b0 b1:Nat) (g:Gr):Prop:=∃G c n t s sp l f vs,KF K G F b0 b1 g c n t s sp l f vs
section
variable {K G F:PH} {b0 b1:Nat} {g:Gr} {c n t s sp l f:Sl} {vs:List Γ}
theorem KF.up {G' F':PH} (h:KF K G F b0 b1 g c n t s sp l f vs) (hl:G.le G') (st:St G' F' [pt b1 (.cells (g.arr c n t s sp l f) 37),own sp 55 13 (cat vs),pt b0 (.cells zG 37)]):KF K G' F' b0 b1 g c n t s sp l f vs:=
 ⟨aa h.k hl,st,h.r.le hl,h.c.le hl,h.n.le hl,h.t.le hl,h.s.le hl,h.l.le hl,h.f.le hl⟩
theorem KF.sz (h:KF K G F b0 b1 g c n t s sp l f vs):∀d∈vs,d.size=13:=by
 have:∀{l:List Pr} {vs:List Γ},cN G l vs->∀d∈vs,d.size=13:=by
  intro l vs h;induction h with
  |nil=>intro d hd;cases hd
  |cons h _ ih=>
   intro d hd;rcases UT.1 hd with rfl|hd
   ·exact Mem.len h
   ·exact ih d hd
 exact this h.r
theorem KF.len (h:KF K G F b0 b1 g c n t s sp l f vs):sp.len=g.prods.length:=by obtain ⟨ho,-⟩:=h.st.ownAt (i:=1) rfl;have h1:=ho.rd.len;have h2:=h.r.cat_len;rw [h2] at h1;have:g.prods.length*13=sp.len*13:=h1;omega
def jh (fn:FuncId) (i:Int) (x:Sy):Prop:=∀F:PH,ai prog fn #[vi i] F λr F'=>r=.agg x.arr/\F.le F'
theorem eG (i:Int):jh 49 i ⟨false,i⟩:=ie i
theorem cS (i:Int):jh 48 i ⟨true,i⟩:=kB i
theorem KF.add (h:KF K G F b0 b1 g c n t s sp l f vs) {nm:ByteArray} {left:Int} {sx:Sl} {right:List Sy} (hx:RL G sx right) (hl:g.prods.length<=1000) {C:Ψ}
  (k:∀F',KS K F' b0 b1 {g with prods:=g.prods++[bH nm left right]}->C F'):
  ai prog 81 #[.string nm,vi left,sx.v] F λv F=>∃w:Γ,v=.agg w/\F.cell (Addr.mk b1 5 none)=some (Sl.v sp)/\w.size=13/\∀b,F b=none->atF (F.set b (.cells w 55)) λF=>
   aG prog (Builtin.append_ #[33,33] 33 #[Sl.v sp,Sl.v (Sl.mk (some (Addr.mk b 0 none)) 1 1)]) F λv F=>∃s':Sl,v=Sl.v s'/\sto F (Addr.mk b1 5 none) (Sl.v s') C:=by
 obtain ⟨_,_,T⟩:=HG;refine h.st.run (tI nm left hx) λ_ G' F' hr l1 st=> ?_;obtain ⟨w,rfl,hw⟩:=hr;refine ⟨w,rfl,st.ld0 rfl,Mem.len hw,st.push1 T (Mem.len hw) (Mem.st hw) (by have:=h.len;omega) λs' G'' F'' l2 st' hlen=> ?_⟩;rw [show cat vs++w.toList=cat (vs++[w]) by rw [bF,bV]] at st';refine st'.set0 (w':=Gr.arr {g with prods:=g.prods++[bH nm left right]} c n t s s' l f) (by show 5<9;decide) rfl λF3 st=>k _ ?_;have l3:=aa l1 l2;exact ⟨G'',c,n,t,s,s',l,f,_,aa h.k l3,st,(h.r.le l3).append (.cons (Mem.le l2 hw) .nil),h.c.le l3,h.n.le l3,h.t.le l3,h.s.le l3,h.l.le l3,h.f.le l3⟩
theorem KF.el1 (h:KF K G F b0 b1 g c n t s sp l f vs) {k:Nat} {p p':Pr} (hp:g.prods[k]? =some p) {off:Nat} {v:Value} (ho:off<13) (hm:∀w,Mem.rep G p w->Mem.rep G p' (w.setIfInBounds off v)) {C:Ψ}
  (kk:∀F',KS K F' b0 b1 {g with prods:=g.prods.set k p'}->C F'):
  ∃a:Addr,sp.base=some a/\0<=(k:Int)/\(k:Int)<(sp.len:Int)/\sto F (Addr.add (Addr.add a (Int.toNat (k:Int)*13)) off) v C:=by
 obtain ⟨w,h1,h2,_⟩:=h.r.get hp;refine h.st.el1 1 rfl h.sz h1 (by decide) ho λF' st=>kk _ ?_;exact ⟨G,c,n,t,s,sp,l,f,_,h.k,st,h.r.set (hm w h2),h.c,h.n,h.t,h.s,h.l,h.f⟩
theorem KF.elN (h:KF K G F b0 b1 g c n t s sp l f vs) {k:Nat} {p p':Pr} (hp:g.prods[k]? =some p) {off m:Nat} {v:Γ} (hs:v.size=m) (ho:off+m<=13) (hst:∀x∈v.toList,ak x) (hm:∀w,Mem.rep G p w->Mem.rep G p' (wr w off v.toList)) {C:Ψ}
  (kk:∀F',KS K F' b0 b1 {g with prods:=g.prods.set k p'}->C F'):
  ∃a:Addr,sp.base=some a/\0<=(k:Int)/\(k:Int)<(sp.len:Int)/\au F (Addr.add (Addr.add a (Int.toNat (k:Int)*13)) off) m v C:=by
 obtain ⟨w,h1,h2,_⟩:=h.r.get hp;refine h.st.elN 1 rfl h.sz h1 (by decide) hs ho hst λF' st=>kk _ ?_;exact ⟨G,c,n,t,s,sp,l,f,_,h.k,st,h.r.set (hm w h2),h.c,h.n,h.t,h.s,h.l,h.f⟩
theorem KS.set1 (h:KS K F b0 b1 g) (k:Nat) {p:Pr} (p':Pr) (hp:g.prods[k]? =some p) {off:Nat} {v:Value} (ho:off<13) (hm:∀(G:PH) w,Mem.rep G p w->Mem.rep G p' (w.setIfInBounds off v)) {C:Ψ}
  (kk:∀F',KS K F' b0 b1 {g with prods:=g.prods.set k p'}->C F'):
  ∃sp:Sl,F.cell (Addr.mk b1 5 none)=some (Sl.v sp)/\∃a:Addr,sp.base=some a/\0<=(k:Int)/\(k:Int)<(sp.len:Int)/\sto F (Addr.add (Addr.add a (Int.toNat (k:Int)*13)) off) v C:=by
 obtain ⟨G,c,n,t,s,sp,l,f,vs,h⟩:=h;exact ⟨sp,h.st.ld0 rfl,h.el1 hp ho (hm G) kk⟩
theorem KS.setN (h:KS K F b0 b1 g) (k:Nat) {p:Pr} (p':Pr) (hp:g.prods[k]? =some p) {off m:Nat} {v:Γ} (hs:v.size=m) (ho:off+m<=13) (hst:∀x∈v.toList,ak x) (hm:∀(G:PH) w,Mem.rep G p w->Mem.rep G p' (wr w off v.toList)) {C:Ψ}
  (kk:∀F',KS K F' b0 b1 {g with prods:=g.prods.set k p'}->C F'):
  ∃sp:Sl,F.cell (Addr.mk b1 5 none)=some (Sl.v sp)/\∃a:Addr,sp.base=some a/\0<=(k:Int)/\(k:Int)<(sp.len:Int)/\au F (Addr.add (Addr.add a (Int.toNat (k:Int)*13)) off) m v C:=by
 obtain ⟨G,c,n,t,s,sp,l,f,vs,h⟩:=h;exact ⟨sp,h.st.ld0 rfl,h.elN hp hs ho hst (hm G) kk⟩
theorem KS.brk (h:KS K F b0 b1 g) (k:Nat) {p:Pr} (hp:g.prods[k]? =some p) {C:Ψ} (kk:∀F',KS K F' b0 b1 {g with prods:=g.prods.set k {p with brk:=true}}->C F'):
  ∃sp:Sl,F.cell (Addr.mk b1 5 none)=some (Sl.v sp)/\∃a:Addr,sp.base=some a/\0<=(k:Int)/\(k:Int)<(sp.len:Int)/\sto F (Addr.add (Addr.add a (Int.toNat (k:Int)*13)) 5) (.bool true) C:=
 h.set1 k {p with brk:=true} hp (by decide) (λG w ⟨r,n,l,e,h1,h2,h3⟩=>⟨r,n,l,by rw [e];rfl,h1,h2,h3⟩) kk
theorem KS.rank (h:KS K F b0 b1 g) (k:Nat) {p:Pr} (hp:g.prods[k]? =some p) {x:Int} {C:Ψ} (kk:∀F',KS K F' b0 b1 {g with prods:=g.prods.set k {p with rank:=x}}->C F'):
  ∃sp:Sl,F.cell (Addr.mk b1 5 none)=some (Sl.v sp)/\∃a:Addr,sp.base=some a/\0<=(k:Int)/\(k:Int)<(sp.len:Int)/\sto F (Addr.add (Addr.add a (Int.toNat (k:Int)*13)) 6) (vi x) C:=
 h.set1 k {p with rank:=x} hp (by decide) (λG w ⟨r,n,l,e,h1,h2,h3⟩=>⟨r,n,l,by rw [e];rfl,h1,h2,h3⟩) kk
theorem KS.sco (h:KS K F b0 b1 g) (k:Nat) {p:Pr} (hp:g.prods[k]? =some p) {x0:Bool} {x1 x2 x3 x4:Int} {C:Ψ} (kk:∀F',KS K F' b0 b1 {g with prods:=g.prods.set k {p with sco:=⟨x0,x1,x2,x3,x4⟩}}->C F'):
  ∃sp:Sl,F.cell (Addr.mk b1 5 none)=some (Sl.v sp)/\∃a:Addr,sp.base=some a/\0<=(k:Int)/\(k:Int)<(sp.len:Int)/\au F (Addr.add (Addr.add a (Int.toNat (k:Int)*13)) 8) 5 #[.bool x0,vi x1,vi x2,vi x3,vi x4] C:=
 h.setN k {p with sco:=⟨x0,x1,x2,x3,x4⟩} hp rfl (by show 8+5<=13;decide) (by simp [ak]) (λG w ⟨r,n,l,e,h1,h2,h3⟩=>⟨r,n,l,by rw [e];rfl,h1,h2,h3⟩) kk
theorem KS.cnd (h:KS K F b0 b1 g) (k:Nat) {p:Pr} (hp:g.prods[k]? =some p) (v:Nat) (hv:v<=63) {C:Ψ} (kk:∀F',KS K F' b0 b1 {g with prods:=g.prods.set k {p with cond:=dia (tv v)}}->C F'):
  ∃sp:Sl,F.cell (Addr.mk b1 5 none)=some (Sl.v sp)/\ai prog 85 #[vi v] F λr F=>∃w:Γ,r=.agg w/\F.cell (Addr.mk b1 5 none)=some (Sl.v sp)/\
   ∃a:Addr,sp.base=some a/\0<=(k:Int)/\(k:Int)<(sp.len:Int)/\au F (Addr.add (Addr.add a (Int.toNat (k:Int)*13)) 3) 2 w C:=by
 obtain ⟨G,c,n,t,s,sp,l,f,vs,h⟩:=h;refine ⟨sp,h.st.ld0 rfl,h.st.run (aQ v hv _) λ_ G' F' hr l1 st=> ?_⟩;obtain ⟨w,rfl,hw⟩:=hr;obtain ⟨m,rfl,hm⟩:=hw.out;refine ⟨_,rfl,st.ld0 rfl,(h.up l1 st).elN (p':={p with cond:=dia (tv v)}) hp rfl (by show 3+2<=13;decide) (by simp [ak,Sl.v]) (λw ⟨r,n,l,e,h1,h2,h3⟩=>⟨r,m,l,by rw [e];rfl,h1,hm,h3⟩) kk⟩
theorem yw {F:PH} {b:Nat} {e:TypeId} {x:Cn} (q:F b=some (.cells x.arr e)):RL F (Sl.mk (some (Addr.mk b 0 none)) 1 1) [x]:=⟨[x.arr],.cons rfl .nil,RdS.new q rfl rfl (UW _)⟩
theorem LQ {F:PH} {b:Nat} {e:TypeId} {x y:Cn} (q:F b=some (.cells (wr (wr (#[.int .i64 0,.int .i64 0,.int .i64 0,.int .i64 0,.int .i64 0,.int .i64 0]:Γ) 0 x.arr.toList) 3 y.arr.toList) e)):RL F (Sl.mk (some (Addr.mk b 0 none)) 2 2) [x,y]:=⟨[x.arr,y.arr],.cons rfl (.cons rfl .nil),RdS.new q rfl rfl (UW _)⟩
theorem KS.lay1 (h:KS K F b0 b1 g) (k:Nat) {p:Pr} (hp:g.prods[k]? =some p) {x1 x2 x3:Int} {C:Ψ} (kk:∀F',KS K F' b0 b1 {g with prods:=g.prods.set k {p with lay:=[⟨x1,x2,x3⟩]}}->C F'):
  ∃sp:Sl,F.cell (Addr.mk b1 5 none)=some (Sl.v sp)/\(#[vi x1,vi x2,vi x3]:Γ).size=3/\∀b,F b=none->atF (F.set b (.cells (#[vi x1,vi x2,vi x3]:Γ) 153)) λF=>
   ∃a:Addr,sp.base=some a/\0<=(k:Int)/\(k:Int)<(sp.len:Int)/\sto F (Addr.add (Addr.add a (Int.toNat (k:Int)*13)) 7) (Sl.v (Sl.mk (some (Addr.mk b 0 none)) 1 1)) C:=by
 obtain ⟨G,c,n,t,s,sp,l,f,vs,h⟩:=h;refine ⟨sp,h.st.ld0 rfl,rfl,h.st.newG λb G' F' l1 q _ st=> ?_⟩;exact (h.up l1 st).el1 (p':={p with lay:=[⟨x1,x2,x3⟩]}) hp (by decide) (λw ⟨r,n,l,e,h1,h2,h3⟩=>⟨r,n,_,by rw [e];rfl,h1,h2,yw (x:=⟨x1,x2,x3⟩) q⟩) kk
theorem KS.lay2 (h:KS K F b0 b1 g) (k:Nat) {p:Pr} (hp:g.prods[k]? =some p) {x1 x2 x3 y1 y2 y3:Int} {C:Ψ} (kk:∀F',KS K F' b0 b1 {g with prods:=g.prods.set k {p with lay:=[⟨x1,x2,x3⟩,⟨y1,y2,y3⟩]}}->C F'):
  ∃sp:Sl,F.cell (Addr.mk b1 5 none)=some (Sl.v sp)/\(#[vi x1,vi x2,vi x3]:Γ).size=3/\(#[vi y1,vi y2,vi y3]:Γ).size=3/\
   ∀b,F b=none->atF (F.set b (.cells (wr (wr (#[.int .i64 0,.int .i64 0,.int .i64 0,.int .i64 0,.int .i64 0,.int .i64 0]:Γ) 0 (#[vi x1,vi x2,vi x3]:Γ).toList) 3 (#[vi y1,vi y2,vi y3]:Γ).toList) 153)) λF=>
   ∃a:Addr,sp.base=some a/\0<=(k:Int)/\(k:Int)<(sp.len:Int)/\sto F (Addr.add (Addr.add a (Int.toNat (k:Int)*13)) 7) (Sl.v (Sl.mk (some (Addr.mk b 0 none)) 2 2)) C:=by
 obtain ⟨G,c,n,t,s,sp,l,f,vs,h⟩:=h;refine ⟨sp,h.st.ld0 rfl,rfl,rfl,h.st.newG λb G' F' l1 q _ st=> ?_⟩;exact (h.up l1 st).el1 (p':={p with lay:=[⟨x1,x2,x3⟩,⟨y1,y2,y3⟩]}) hp (by decide) (λw ⟨r,n,l,e,h1,h2,h3⟩=>⟨r,n,_,by rw [e];rfl,h1,h2,LQ (x:=⟨x1,x2,x3⟩) (y:=⟨y1,y2,y3⟩) q⟩) kk
theorem KS.fin (h:KS K F b0 b1 g) {R:VR} (k:∀w F',GV F' w g->K.le F'->R (.agg w) F'):
  ∃v:Γ,v.size=9/\F.row (Addr.mk b1 0 none) v/\au F (Addr.mk b0 0 none) 9 v λF=>∃w:Γ,w.size=9/\F.row (Addr.mk b0 0 none) w/\R (.agg w) F:=by
 obtain ⟨G,c,n,t,s,sp,l,f,vs,h⟩:=h;refine ⟨_,rfl,h.st.whole0,?_⟩;refine h.st.put2 (w':=g.arr c n t s sp l f) rfl rfl (by simp [ak,Sl.v]) λF' st=> ?_;obtain ⟨ho,-⟩:=st.ownAt (i:=1) rfl;refine ⟨_,rfl,st.whole2,k _ _ ⟨c,n,t,s,sp,l,f,rfl,h.c.le st.le,h.n.le st.le,h.t.le st.le,h.s.le st.le,⟨vs,h.r.le st.le,ho.rd⟩,h.l.le st.le,h.f.le st.le⟩ (aa h.k st.le)⟩
theorem KS.lvs (h:KS K F b0 b1 g) {sx:Sl} {x:List Lv} (hx:RL K sx x) {C:Ψ} (kk:∀F',KS K F' b0 b1 {g with lvs:=x}->C F'):sto F (Addr.mk b1 7 none) (Sl.v sx) C:=by obtain ⟨G,c,n,t,s,sp,l,f,vs,h⟩:=h;refine h.st.set0 (w':=Gr.arr {g with lvs:=x} c n t s sp sx f) (by show 7<9;decide) rfl λF' st=>kk _ ?_;exact ⟨G,c,n,t,s,sp,sx,f,vs,h.k,st,h.r,h.c,h.n,h.t,h.s,hx.le h.k,h.f⟩
theorem KS.fils (h:KS K F b0 b1 g) {sx:Sl} {x:List Fi} (hx:RL K sx x) {C:Ψ} (kk:∀F',KS K F' b0 b1 {g with fils:=x}->C F'):sto F (Addr.mk b1 8 none) (Sl.v sx) C:=by obtain ⟨G,c,n,t,s,sp,l,f,vs,h⟩:=h;refine h.st.set0 (w':=Gr.arr {g with fils:=x} c n t s sp l sx) (by show 8<9;decide) rfl λF' st=>kk _ ?_;exact ⟨G,c,n,t,s,sp,l,sx,vs,h.k,st,h.r,h.c,h.n,h.t,h.s,h.l,hx.le h.k⟩
theorem KS.new (h:KS K F b0 b1 g) {o:Obj} {C:Nat->Ψ} (k:∀b K' F',K.le K'->K' b=some o->KS K' F' b0 b1 g->C b F'):∀b,F b=none->atF (F.set b o) (C b):=by obtain ⟨G,c,n,t,s,sp,l,f,vs,h⟩:=h;exact h.st.newG λb G' F' l1 q _ st=>k b G' F' (aa h.k l1) q ⟨G',c,n,t,s,sp,l,f,vs,aq _,st,h.r.le l1,h.c.le l1,h.n.le l1,h.t.le l1,h.s.le l1,h.l.le l1,h.f.le l1⟩
theorem KS.run (h:KS K F b0 b1 g) {fn:FuncId} {args:Γ} {P:Value->Ψ} {Q:Value->Ψ} (sp:∀G,K.le G->ai prog fn args G λr G'=>P r G'/\G.le G') (k:∀r K' F',P r K'->K.le K'->KS K' F' b0 b1 g->Q r F'):ai prog fn args F Q:=by obtain ⟨G,c,n,t,s,sl,l,f,vs,h⟩:=h;exact h.st.run (sp G h.k) λr G' F' hp l1 st=>k r G' F' hp (aa h.k l1) ⟨G',c,n,t,s,sl,l,f,vs,aq _,st,h.r.le l1,h.c.le l1,h.n.le l1,h.t.le l1,h.s.le l1,h.l.le l1,h.f.le l1⟩
theorem KS.le (h:KS K F b0 b1 g):K.le F:=by obtain ⟨G,c,n,t,s,sp,l,f,vs,h⟩:=h;exact aa h.k h.st.le
theorem KS.rule0 (h:KS K F b0 b1 g) (hl:g.prods.length<=1000) {nm:ByteArray} {left:Int} {C:Ψ} (k:∀F',KS K F' b0 b1 {g with prods:=g.prods++[bH nm left []]}->C F'):
  ∃sp:Sl,F.cell (Addr.mk b1 5 none)=some (Sl.v sp)/\∀b,F b=none->atF (F.set b (.cells #[] 63)) λF=>
   ai prog 81 #[.string nm,vi left,Sl.v (Sl.mk (some (Addr.mk b 0 none)) 0 0)] F λv F=>∃w:Γ,v=.agg w/\F.cell (Addr.mk b1 5 none)=some (Sl.v sp)/\w.size=13/\∀b,F b=none->atF (F.set b (.cells w 55)) λF=>
   aG prog (Builtin.append_ #[33,33] 33 #[Sl.v sp,Sl.v (Sl.mk (some (Addr.mk b 0 none)) 1 1)]) F λv F=>∃s':Sl,v=Sl.v s'/\sto F (Addr.mk b1 5 none) (Sl.v s') C:=by
 obtain ⟨G,c,n,t,s,sp,l,f,vs,h⟩:=h;refine ⟨sp,h.st.ld0 rfl,?_⟩;refine h.st.newG λb G9 F9 l9 q _ st=> ?_;exact (h.up l9 st).add ⟨[],.nil,RdS.new q (by kernel_rfl) rfl (UW _)⟩ hl k
theorem KS.rule1 (h:KS K F b0 b1 g) {f1:FuncId} {i1:Int} {x1:Sy} (s1:jh f1 i1 x1) (hl:g.prods.length<=1000) {nm:ByteArray} {left:Int} {C:Ψ} (k:∀F',KS K F' b0 b1 {g with prods:=g.prods++[bH nm left [x1]]}->C F'):
  ∃sp:Sl,F.cell (Addr.mk b1 5 none)=some (Sl.v sp)/\ai prog f1 #[vi i1] F λv F=>∃v1:Γ,v=.agg v1/\F.cell (Addr.mk b1 5 none)=some (Sl.v sp)/\v1.size=2/\∀b,F b=none->atF (F.set b (.cells v1 63)) λF=>
   ai prog 81 #[.string nm,vi left,Sl.v (Sl.mk (some (Addr.mk b 0 none)) 1 1)] F λv F=>∃w:Γ,v=.agg w/\F.cell (Addr.mk b1 5 none)=some (Sl.v sp)/\w.size=13/\∀b,F b=none->atF (F.set b (.cells w 55)) λF=>
   aG prog (Builtin.append_ #[33,33] 33 #[Sl.v sp,Sl.v (Sl.mk (some (Addr.mk b 0 none)) 1 1)]) F λv F=>∃s':Sl,v=Sl.v s'/\sto F (Addr.mk b1 5 none) (Sl.v s') C:=by
 obtain ⟨G,c,n,t,s,sp,l,f,vs,h⟩:=h;refine ⟨sp,h.st.ld0 rfl,?_⟩;refine h.st.runv (s1 _) λG1 F1 l1 st=> ?_;refine ⟨_,rfl,st.ld0 rfl,rfl,?_⟩;refine st.newG λb G9 F9 l9 q _ st=> ?_;exact (h.up (aa l1 l9) st).add ⟨[x1.arr],(.cons rfl .nil),RdS.new q (by kernel_rfl) rfl (UW _)⟩ hl k
theorem KS.rule2 (h:KS K F b0 b1 g) {f1 f2:FuncId} {i1 i2:Int} {x1 x2:Sy} (s1:jh f1 i1 x1) (s2:jh f2 i2 x2) (hl:g.prods.length<=1000) {nm:ByteArray} {left:Int} {C:Ψ} (k:∀F',KS K F' b0 b1 {g with prods:=g.prods++[bH nm left [x1,x2]]}->C F'):
  ∃sp:Sl,F.cell (Addr.mk b1 5 none)=some (Sl.v sp)/\ai prog f1 #[vi i1] F λv F=>∃v1:Γ,v=.agg v1/\F.cell (Addr.mk b1 5 none)=some (Sl.v sp)/\ai prog f2 #[vi i2] F λv F=>∃v2:Γ,v=.agg v2/\F.cell (Addr.mk b1 5 none)=some (Sl.v sp)/\v1.size=2/\v2.size=2/\∀b,F b=none->atF (F.set b (.cells (wr (wr (#[.bool false,.int .i64 0,.bool false,.int .i64 0]:Γ) 0 v1.toList) 2 v2.toList) 63)) λF=>
   ai prog 81 #[.string nm,vi left,Sl.v (Sl.mk (some (Addr.mk b 0 none)) 2 2)] F λv F=>∃w:Γ,v=.agg w/\F.cell (Addr.mk b1 5 none)=some (Sl.v sp)/\w.size=13/\∀b,F b=none->atF (F.set b (.cells w 55)) λF=>
   aG prog (Builtin.append_ #[33,33] 33 #[Sl.v sp,Sl.v (Sl.mk (some (Addr.mk b 0 none)) 1 1)]) F λv F=>∃s':Sl,v=Sl.v s'/\sto F (Addr.mk b1 5 none) (Sl.v s') C:=by
 obtain ⟨G,c,n,t,s,sp,l,f,vs,h⟩:=h;refine ⟨sp,h.st.ld0 rfl,?_⟩;refine h.st.runv (s1 _) λG1 F1 l1 st=> ?_;refine ⟨_,rfl,st.ld0 rfl,?_⟩;refine st.runv (s2 _) λG2 F2 l2 st=> ?_;refine ⟨_,rfl,st.ld0 rfl,rfl,rfl,?_⟩;refine st.newG λb G9 F9 l9 q _ st=> ?_;exact (h.up (aa l1 (aa l2 l9)) st).add ⟨[x1.arr,x2.arr],(.cons rfl (.cons rfl .nil)),RdS.new q (by kernel_rfl) rfl (UW _)⟩ hl k
theorem KS.rule3 (h:KS K F b0 b1 g) {f1 f2 f3:FuncId} {i1 i2 i3:Int} {x1 x2 x3:Sy} (s1:jh f1 i1 x1) (s2:jh f2 i2 x2) (s3:jh f3 i3 x3) (hl:g.prods.length<=1000) {nm:ByteArray} {left:Int} {C:Ψ} (k:∀F',KS K F' b0 b1 {g with prods:=g.prods++[bH nm left [x1,x2,x3]]}->C F'):
  ∃sp:Sl,F.cell (Addr.mk b1 5 none)=some (Sl.v sp)/\ai prog f1 #[vi i1] F λv F=>∃v1:Γ,v=.agg v1/\F.cell (Addr.mk b1 5 none)=some (Sl.v sp)/\ai prog f2 #[vi i2] F λv F=>∃v2:Γ,v=.agg v2/\F.cell (Addr.mk b1 5 none)=some (Sl.v sp)/\ai prog f3 #[vi i3] F λv F=>∃v3:Γ,v=.agg v3/\F.cell (Addr.mk b1 5 none)=some (Sl.v sp)/\v1.size=2/\v2.size=2/\v3.size=2/\∀b,F b=none->atF (F.set b (.cells (wr (wr (wr (#[.bool false,.int .i64 0,.bool false,.int .i64 0,.bool false,.int .i64 0]:Γ) 0 v1.toList) 2 v2.toList) 4 v3.toList) 63)) λF=>
   ai prog 81 #[.string nm,vi left,Sl.v (Sl.mk (some (Addr.mk b 0 none)) 3 3)] F λv F=>∃w:Γ,v=.agg w/\F.cell (Addr.mk b1 5 none)=some (Sl.v sp)/\w.size=13/\∀b,F b=none->atF (F.set b (.cells w 55)) λF=>
   aG prog (Builtin.append_ #[33,33] 33 #[Sl.v sp,Sl.v (Sl.mk (some (Addr.mk b 0 none)) 1 1)]) F λv F=>∃s':Sl,v=Sl.v s'/\sto F (Addr.mk b1 5 none) (Sl.v s') C:=by
 obtain ⟨G,c,n,t,s,sp,l,f,vs,h⟩:=h;refine ⟨sp,h.st.ld0 rfl,?_⟩;refine h.st.runv (s1 _) λG1 F1 l1 st=> ?_;refine ⟨_,rfl,st.ld0 rfl,?_⟩;refine st.runv (s2 _) λG2 F2 l2 st=> ?_;refine ⟨_,rfl,st.ld0 rfl,?_⟩;refine st.runv (s3 _) λG3 F3 l3 st=> ?_;refine ⟨_,rfl,st.ld0 rfl,rfl,rfl,rfl,?_⟩;refine st.newG λb G9 F9 l9 q _ st=> ?_;exact (h.up (aa l1 (aa l2 (aa l3 l9))) st).add ⟨[x1.arr,x2.arr,x3.arr],(.cons rfl (.cons rfl (.cons rfl .nil))),RdS.new q (by kernel_rfl) rfl (UW _)⟩ hl k
theorem KS.rule4 (h:KS K F b0 b1 g) {f1 f2 f3 f4:FuncId} {i1 i2 i3 i4:Int} {x1 x2 x3 x4:Sy} (s1:jh f1 i1 x1) (s2:jh f2 i2 x2) (s3:jh f3 i3 x3) (s4:jh f4 i4 x4) (hl:g.prods.length<=1000) {nm:ByteArray} {left:Int} {C:Ψ} (k:∀F',KS K F' b0 b1 {g with prods:=g.prods++[bH nm left [x1,x2,x3,x4]]}->C F'):
  ∃sp:Sl,F.cell (Addr.mk b1 5 none)=some (Sl.v sp)/\ai prog f1 #[vi i1] F λv F=>∃v1:Γ,v=.agg v1/\F.cell (Addr.mk b1 5 none)=some (Sl.v sp)/\ai prog f2 #[vi i2] F λv F=>∃v2:Γ,v=.agg v2/\F.cell (Addr.mk b1 5 none)=some (Sl.v sp)/\ai prog f3 #[vi i3] F λv F=>∃v3:Γ,v=.agg v3/\F.cell (Addr.mk b1 5 none)=some (Sl.v sp)/\ai prog f4 #[vi i4] F λv F=>∃v4:Γ,v=.agg v4/\F.cell (Addr.mk b1 5 none)=some (Sl.v sp)/\v1.size=2/\v2.size=2/\v3.size=2/\v4.size=2/\∀b,F b=none->atF (F.set b (.cells (wr (wr (wr (wr (#[.bool false,.int .i64 0,.bool false,.int .i64 0,.bool false,.int .i64 0,.bool false,.int .i64 0]:Γ) 0 v1.toList) 2 v2.toList) 4 v3.toList) 6 v4.toList) 63)) λF=>
   ai prog 81 #[.string nm,vi left,Sl.v (Sl.mk (some (Addr.mk b 0 none)) 4 4)] F λv F=>∃w:Γ,v=.agg w/\F.cell (Addr.mk b1 5 none)=some (Sl.v sp)/\w.size=13/\∀b,F b=none->atF (F.set b (.cells w 55)) λF=>
   aG prog (Builtin.append_ #[33,33] 33 #[Sl.v sp,Sl.v (Sl.mk (some (Addr.mk b 0 none)) 1 1)]) F λv F=>∃s':Sl,v=Sl.v s'/\sto F (Addr.mk b1 5 none) (Sl.v s') C:=by
 obtain ⟨G,c,n,t,s,sp,l,f,vs,h⟩:=h;refine ⟨sp,h.st.ld0 rfl,?_⟩;refine h.st.runv (s1 _) λG1 F1 l1 st=> ?_;refine ⟨_,rfl,st.ld0 rfl,?_⟩;refine st.runv (s2 _) λG2 F2 l2 st=> ?_;refine ⟨_,rfl,st.ld0 rfl,?_⟩;refine st.runv (s3 _) λG3 F3 l3 st=> ?_;refine ⟨_,rfl,st.ld0 rfl,?_⟩;refine st.runv (s4 _) λG4 F4 l4 st=> ?_;refine ⟨_,rfl,st.ld0 rfl,rfl,rfl,rfl,rfl,?_⟩;refine st.newG λb G9 F9 l9 q _ st=> ?_;exact (h.up (aa l1 (aa l2 (aa l3 (aa l4 l9)))) st).add ⟨[x1.arr,x2.arr,x3.arr,x4.arr],(.cons rfl (.cons rfl (.cons rfl (.cons rfl .nil)))),RdS.new q (by kernel_rfl) rfl (UW _)⟩ hl k
theorem KS.rule5 (h:KS K F b0 b1 g) {f1 f2 f3 f4 f5:FuncId} {i1 i2 i3 i4 i5:Int} {x1 x2 x3 x4 x5:Sy} (s1:jh f1 i1 x1) (s2:jh f2 i2 x2) (s3:jh f3 i3 x3) (s4:jh f4 i4 x4) (s5:jh f5 i5 x5) (hl:g.prods.length<=1000) {nm:ByteArray} {left:Int} {C:Ψ} (k:∀F',KS K F' b0 b1 {g with prods:=g.prods++[bH nm left [x1,x2,x3,x4,x5]]}->C F'):
  ∃sp:Sl,F.cell (Addr.mk b1 5 none)=some (Sl.v sp)/\ai prog f1 #[vi i1] F λv F=>∃v1:Γ,v=.agg v1/\F.cell (Addr.mk b1 5 none)=some (Sl.v sp)/\ai prog f2 #[vi i2] F λv F=>∃v2:Γ,v=.agg v2/\F.cell (Addr.mk b1 5 none)=some (Sl.v sp)/\ai prog f3 #[vi i3] F λv F=>∃v3:Γ,v=.agg v3/\F.cell (Addr.mk b1 5 none)=some (Sl.v sp)/\ai prog f4 #[vi i4] F λv F=>∃v4:Γ,v=.agg v4/\F.cell (Addr.mk b1 5 none)=some (Sl.v sp)/\ai prog f5 #[vi i5] F λv F=>∃v5:Γ,v=.agg v5/\F.cell (Addr.mk b1 5 none)=some (Sl.v sp)/\v1.size=2/\v2.size=2/\v3.size=2/\v4.size=2/\v5.size=2/\∀b,F b=none->atF (F.set b (.cells (wr (wr (wr (wr (wr (#[.bool false,.int .i64 0,.bool false,.int .i64 0,.bool false,.int .i64 0,.bool false,.int .i64 0,.bool false,.int .i64 0]:Γ) 0 v1.toList) 2 v2.toList) 4 v3.toList) 6 v4.toList) 8 v5.toList) 63)) λF=>
   ai prog 81 #[.string nm,vi left,Sl.v (Sl.mk (some (Addr.mk b 0 none)) 5 5)] F λv F=>∃w:Γ,v=.agg w/\F.cell (Addr.mk b1 5 none)=some (Sl.v sp)/\w.size=13/\∀b,F b=none->atF (F.set b (.cells w 55)) λF=>
   aG prog (Builtin.append_ #[33,33] 33 #[Sl.v sp,Sl.v (Sl.mk (some (Addr.mk b 0 none)) 1 1)]) F λv F=>∃s':Sl,v=Sl.v s'/\sto F (Addr.mk b1 5 none) (Sl.v s') C:=by
 obtain ⟨G,c,n,t,s,sp,l,f,vs,h⟩:=h;refine ⟨sp,h.st.ld0 rfl,?_⟩;refine h.st.runv (s1 _) λG1 F1 l1 st=> ?_;refine ⟨_,rfl,st.ld0 rfl,?_⟩;refine st.runv (s2 _) λG2 F2 l2 st=> ?_;refine ⟨_,rfl,st.ld0 rfl,?_⟩;refine st.runv (s3 _) λG3 F3 l3 st=> ?_;refine ⟨_,rfl,st.ld0 rfl,?_⟩;refine st.runv (s4 _) λG4 F4 l4 st=> ?_;refine ⟨_,rfl,st.ld0 rfl,?_⟩;refine st.runv (s5 _) λG5 F5 l5 st=> ?_;refine ⟨_,rfl,st.ld0 rfl,rfl,rfl,rfl,rfl,rfl,?_⟩;refine st.newG λb G9 F9 l9 q _ st=> ?_;exact (h.up (aa l1 (aa l2 (aa l3 (aa l4 (aa l5 l9))))) st).add ⟨[x1.arr,x2.arr,x3.arr,x4.arr,x5.arr],(.cons rfl (.cons rfl (.cons rfl (.cons rfl (.cons rfl .nil))))),RdS.new q (by kernel_rfl) rfl (UW _)⟩ hl k
end
theorem St.imp {G F:PH} {As:List (Ψ)} (h:St G F As) (i:Nat) {A A':Ψ} (hi:As[i]? =some A) (f:∀H,H.le F->A H->A' H):St G F (As.set i A'):=by obtain ⟨H,a1,a2,a3,a4⟩:=h.set (A':=A') hi;exact a4 H F (f H a3 a1) (λb hb=> .inl hb) a3 λb o hb _=>hb
def uN:List ByteArray:=[⟨#[43]⟩,⟨#[42]⟩,⟨#[40]⟩,⟨#[41]⟩,⟨#[105,102]⟩,⟨#[101,108,115,101]⟩,⟨#[59]⟩,⟨#[94]⟩]
def lq:Tk:=⟨⟨#[105,100]⟩,0,⟨#[]⟩,[⟨1,97,122,0,0⟩,⟨1,97,122,0,0⟩,⟨4,0,0,1,0⟩,⟨2,0,0,0,2⟩],⟨#[120]⟩,aP⟩
def tkL (x:ByteArray):Tk:=⟨x,0,x,[],⟨#[]⟩,aP⟩
def jH:Tk:=⟨⟨#[115,112,97,99,101]⟩,1,⟨#[]⟩,[⟨1,9,10,0,0⟩,⟨1,32,32,0,0⟩,⟨3,0,0,0,1⟩,⟨1,9,10,0,0⟩,⟨1,32,32,0,0⟩,⟨3,0,0,3,4⟩,⟨4,0,0,5,0⟩,⟨2,0,0,2,6⟩],⟨#[]⟩,aP⟩
def gP:Tk:=⟨⟨#[114,101,109,97,114,107]⟩,2,⟨#[]⟩,[⟨1,37,37,0,0⟩,⟨1,97,122,0,0⟩,⟨1,32,32,0,0⟩,⟨3,0,0,1,2⟩,⟨4,0,0,3,0⟩,⟨2,0,0,0,4⟩],⟨#[]⟩,aP⟩
def dL:List Tk:=lq::uN.map tkL++[jH,gP]
theorem oY {F:PH} {x:Tk} {p n:Sl} (hp:RL F p x.pat) (hn:RL F n x.cond.1):Mem.rep F x (x.arr p n):=⟨p,n,rfl,hp,hn⟩
theorem oa (F:PH):ai prog 111 #[] F λr F'=>(∃s,r=Sl.v s/\RL F' s dL)/\F.le F':=by
 obtain ⟨_,_,T⟩:=LV;refine Rb ?_;unfold K9;refine (St.start F).run (fW _) λ_ G1 F1 hr l1 h=> ?_;obtain ⟨w,rfl,hw⟩:=hr;obtain ⟨n,rfl,hn⟩:=hw.out;refine ⟨_,rfl,?_⟩;refine h.new λb1 F2 h=> ?_;refine h.put0 (w':= #[n.v,vi aP.2]) rfl rfl (by simp [ak,Sl.v]) λF3 h=> ?_;refine ⟨_,rfl,h.whole0,rfl,rfl,?_⟩;refine h.new λb10 F4 h=> ?_;refine h.runv (dG 97 122 _) λG2 F5 l2 h=> ?_;refine ⟨_,rfl,?_⟩;refine h.runv (dG 97 122 _) λG3 F6 l3 h=> ?_;refine ⟨_,rfl,?_⟩;refine h.runv (bY 4 1 0 _) λG4 F7 l4 h=> ?_;refine ⟨_,rfl,?_⟩;refine h.runv (bY 2 0 2 _) λG5 F8 l5 h=> ?_;refine ⟨_,rfl,rfl,rfl,rfl,rfl,?_⟩;refine h.newG λb16 G6 F9 l6 q16 _ h=> ?_;have l16:G1.le G6:=aa l2 (aa l3 (aa l4 (aa l5 l6)));have h:=h.imp (A':=own (Sl.mk (some (Addr.mk b10 0 none)) 1 1) 146 7 (cat [Tk.arr ⟨⟨#[105,100]⟩,0,⟨#[]⟩,[],⟨#[120]⟩,aP⟩ Sl.nil n])) 0 rfl λH _ hH=> .inr ⟨b10,_,rfl,hH,rfl,UW _,rfl,rfl⟩;refine h.el1 0 rfl (by simp) (c:=Tk.arr ⟨⟨#[105,100]⟩,0,⟨#[]⟩,[],⟨#[120]⟩,aP⟩ Sl.nil n) (k:=0) rfl (by decide) (by decide) λF10 h=> ?_;refine h.newG λb19 G7 F11 l7 q19 _ h=> ?_;have lt:=aa l16 l7;have r0:cN G7 [lq] [lq.arr (Sl.mk (some (Addr.mk b16 0 none)) 4 4) n]:=.cons (oY ⟨[_,_,_,_],.cons rfl (.cons rfl (.cons rfl (.cons rfl .nil))),RdS.new (l7 _ _ q16) rfl rfl (UW _)⟩ (hn.le lt)) .nil;replace h:St G7 F11 [own (Sl.mk (some (Addr.mk b10 0 none)) 1 1) 146 7 (cat [lq.arr (Sl.mk (some (Addr.mk b16 0 none)) 4 4) n]),pt b1 (.cells #[n.v,vi aP.2] 31)]:=h;have hl:RL G7 (Sl.mk (some (Addr.mk b19 0 none)) 8 8) uN:=RL.strs.2 (RdS.new q19 rfl rfl (UW _));have lF:F.le G7:=aa l1 lt;refine ⟨λm out i F'=>∃k:Nat,k<=8/\i=k/\m=8 - k/\out.len=k+1/\∃G vs,G7.le G/\cN G (lq::(uN.take k).map tkL) vs/\St G F' [own out 146 7 (cat vs),pt b1 (.cells #[n.v,vi aP.2] 31)],8,⟨0,by decide,rfl,rfl,rfl,G7,_,aq _,r0,h⟩,?_⟩;rintro m out i F' ⟨k,hk,rfl,rfl,hlen,G,vs,lG,hr,h⟩;unfold BV;refine ⟨λhi=> ?_,λhi=> ?_⟩
 ·have hk8:k<8:=by have:(k:Int)<8:=hi;omega
  have hx:uN[k]? =some (uN[k]'hk8):=N5 hk8;generalize uN[k]=x at hx;obtain ⟨a,c,ha,hrow,hc⟩:=hl.get (by decide) hx;cases hc;cases ha;have hcell:∀{F':PH},G7.le F'->F'.cell (Addr.add (Addr.mk b19 0 none) (Int.toNat (k:Int)*1))=some (.string x):=λhF=>be (bJ hF hrow) rfl;refine ⟨_,rfl,by omega,hi,x,hcell (aa lG h.le),_,rfl,by omega,hi,x,hcell (aa lG h.le),_,rfl,h.whole1,rfl,rfl,?_⟩;refine h.push0 T (c:=(tkL x).arr Sl.nil n) rfl (by simp [ak,Sl.v]) (by omega) λs' G' F2 l' h hl'=> ?_;refine ⟨h.whole1,hcell (aa lG (aa l' h.le)),hcell (aa lG (aa l' h.le)),8 - (k+1),by omega,k+1,by omega,?_,rfl,by omega,G',vs++[(tkL x).arr Sl.nil n],aa lG l',?_,?_⟩
  ·exact aI (n:=8) hk8 (by decide)
  ·have e:uN.take (k+1)=uN.take k++[x]:=by rw [V7,hx];rfl
   rw [e,Vm,<- VF];exact (hr.le l').append (.cons (oY (.nil _) (hn.le (aa lt (aa lG l')))) .nil)
  ·rw [bF,bV];exact h
 ·have hk8:k=8:=by have:¬(k:Int)<8:=hi;omega
  subst hk8;unfold BU;have r9:=hr;refine h.runv (dG 9 10 _) λH1 F1 m1 h=> ?_;refine ⟨_,rfl,?_⟩;refine h.runv (dG 32 32 _) λH2 F1 m2 h=> ?_;refine ⟨_,rfl,?_⟩;refine h.runv (bY 3 0 1 _) λH3 F1 m3 h=> ?_;refine ⟨_,rfl,?_⟩;refine h.runv (dG 9 10 _) λH4 F1 m4 h=> ?_;refine ⟨_,rfl,?_⟩;refine h.runv (dG 32 32 _) λH5 F1 m5 h=> ?_;refine ⟨_,rfl,?_⟩;refine h.runv (bY 3 3 4 _) λH6 F1 m6 h=> ?_;refine ⟨_,rfl,?_⟩;refine h.runv (bY 4 5 0 _) λH7 F1 m7 h=> ?_;refine ⟨_,rfl,?_⟩;refine h.runv (bY 2 2 6 _) λH8 F1 m8 h=> ?_;refine ⟨_,rfl,rfl,rfl,rfl,rfl,rfl,rfl,rfl,rfl,?_⟩;refine h.newG λb47 H9 F1 m9 q47 _ h=> ?_;refine h.runv (dG 37 37 _) λI1 F1 n1 h=> ?_;refine ⟨_,rfl,?_⟩;refine h.runv (dG 97 122 _) λI2 F1 n2 h=> ?_;refine ⟨_,rfl,?_⟩;refine h.runv (dG 32 32 _) λI3 F1 n3 h=> ?_;refine ⟨_,rfl,?_⟩;refine h.runv (bY 3 1 2 _) λI4 F1 n4 h=> ?_;refine ⟨_,rfl,?_⟩;refine h.runv (bY 4 3 0 _) λI5 F1 n5 h=> ?_;refine ⟨_,rfl,?_⟩;refine h.runv (bY 2 0 4 _) λI6 F1 n6 h=> ?_;refine ⟨_,rfl,rfl,rfl,rfl,rfl,rfl,rfl,?_⟩;refine h.newG λb54 I7 F1 n7 q54 _ h=> ?_;refine ⟨_,rfl,h.whole1,rfl,rfl,?_⟩;refine h.push0 T (c:=jH.arr (Sl.mk (some (Addr.mk b47 0 none)) 8 8) n) rfl (by simp [ak,Sl.v]) (by omega) λs1 I8 F1 n8 h hl1=> ?_;refine ⟨_,rfl,h.whole1,rfl,rfl,?_⟩;refine h.push0 T (c:=gP.arr (Sl.mk (some (Addr.mk b54 0 none)) 6 6) n) rfl (by simp [ak,Sl.v]) (by omega) λs2 I9 F1 n9 h hl2=> ?_;obtain ⟨ho,-⟩:=h.ownAt (i:=0) rfl;have i89:=aa n8 n9;have i79:=aa n7 i89;have iH:H9.le I9:=aa n1 (aa n2 (aa n3 (aa n4 (aa n5 (aa n6 i79)))));have iG:G.le I9:=aa m1 (aa m2 (aa m3 (aa m4 (aa m5 (aa m6 (aa m7 (aa m8 (aa m9 iH))))))));have hn9:=hn.le (aa lt (aa lG iG));refine ⟨⟨s2,rfl,vs++[jH.arr (Sl.mk (some (Addr.mk b47 0 none)) 8 8) n]++[gP.arr (Sl.mk (some (Addr.mk b54 0 none)) 6 6) n],?_,?_⟩,aa lF (aa lG (aa iG h.le))⟩
  ·have e:dL=(lq::(uN.take 8).map tkL)++[jH]++[gP]:=rfl;rw [e];have p1:RL I9 (Sl.mk (some (Addr.mk b47 0 none)) 8 8) jH.pat:=RL.nds.2 (RdS.new (iH _ _ q47) rfl rfl (UW _));have p2:RL I9 (Sl.mk (some (Addr.mk b54 0 none)) 6 6) gP.pat:=RL.nds.2 (RdS.new (i89 _ _ q54) rfl rfl (UW _));exact (((hr.le iG).append (.cons (oY p1 hn9) .nil)).append (.cons (oY p2 hn9) .nil)).le h.le
  ·rw [bF,bF,bV,bV];exact ho.rd
end Go.Proofs.YtcemhghkipgdiaaGreatDoor
